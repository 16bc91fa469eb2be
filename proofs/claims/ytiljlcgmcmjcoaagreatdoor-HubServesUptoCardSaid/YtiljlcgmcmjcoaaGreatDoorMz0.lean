import Derived.WalkKit
namespace Go.Proofs.YtiljlcgmcmjcoaaGreatDoor
open Go.RowKit
abbrev qC:=List UInt8
structure Sess where
 number:Int
 who:qC
 text:qC
 size:Int
 till:Int
 deriving DecidableEq
def Sess.cells (s:Sess):List Value:=[.int .i64 s.number,.string ⟨s.who.toArray⟩,.string ⟨s.text.toArray⟩,.int .i64 s.size,.int .i64 s.till]
structure Upl where
 sess:List Sess
 next:Int
 lasts:Int
 room:Int
 deriving DecidableEq
structure Gra where
 folder:qC
 who:qC
 right:Int
 deriving DecidableEq
def Gra.cells (s:Gra):List Value:=[.string ⟨s.folder.toArray⟩,.string ⟨s.who.toArray⟩,.int .i64 s.right]
def okB (c:UInt8):Bool :=
 (97 ≤ c.toNat && c.toNat ≤ 122) || (65 ≤ c.toNat && c.toNat ≤ 90) || (48 ≤ c.toNat && c.toNat ≤ 57) || c.toNat == 45 || c.toNat == 95 || c.toNat == 46 || c.toNat == 40 || c.toNat == 41 || c.toNat == 32
def ql (s:qC):Bool := !s.isEmpty && decide (s.length ≤ 20) && s != [46] && s != [46,46] && s.head? != some 32 && s.getLast? != some 32 && s.all okB
def Sl {α:Type} (c:α → List Value) (sz:Nat) (w:World) (B:Nat) (v:Value) (l:List α):Prop :=
 ∃ A cap,v = .slice A l.length cap ∧ l.length ≤ cap ∧ cap ≤ maxLen ∧ ∀ k (h:k < l.length), ∃ b off,A = some ⟨b,off,none⟩ ∧ b < B ∧
   ∀ j u,(c l[k])[j]? = some u → w.cell? ⟨b,off + k * sz + j,none⟩ = some u
section
variable {α:Type} {c:α → List Value} {sz:Nat} {w w' : World} {B B' : Nat} {v:Value} {l:List α}
theorem Sl.nil:Sl c sz w B (.slice none 0 0) []:=⟨none,0,rfl,Nat.le_refl _,Nat.zero_le _,fun k h=>absurd h (Nat.not_lt_zero k)⟩
theorem Sl.keep (h:Sl c sz w B v l) (hk : ∀ p:Addr,p.block < B → w'.cell? p = w.cell? p):Sl c sz w' B v l:=by
 obtain ⟨A,cap,hv,h1,h2,h3⟩:=h
 refine ⟨A,cap,hv,h1,h2,fun k hkl=>?_⟩
 obtain ⟨b,off,hA,hB,hc⟩:=h3 k hkl
 exact ⟨b,off,hA,hB,fun j u hu=>(hk ⟨b,off + k * sz + j,none⟩ hB).trans (hc j u hu)⟩
theorem Sl.more (h:Sl c sz w B v l) (hB:B ≤ B'):Sl c sz w B' v l:=by
 obtain ⟨A,cap,hv,h1,h2,h3⟩:=h
 refine ⟨A,cap,hv,h1,h2,fun k hkl=>?_⟩
 obtain ⟨b,off,hA,hb,hc⟩:=h3 k hkl
 exact ⟨b,off,hA,by omega,hc⟩
theorem Sl.below (h:Sl c sz w B v l) (hb:Below B w w'):Sl c sz w' B v l:=h.keep fun _ hp=>hb.cell hp
theorem Sl.at (h:Sl c sz w B v l) {A:Option Addr} {n cap:Nat} (hv:v = .slice A n cap) {k:Nat} (hk:k < l.length) :
  ∃ b off,A = some ⟨b,off,none⟩ ∧ b < B ∧ ∀ j u,(c l[k])[j]? = some u → w.cell? ⟨b,off + k * sz + j,none⟩ = some u:=by
 obtain ⟨A',cap',hv',_,_,h3⟩:=h
 rw [hv] at hv'
 injection hv' with e1 e2 e3
 subst e1
 exact h3 k hk
end
theorem Sl.sess {w:World} {B:Nat} {A:Option Addr} {n cap:Nat} {l:List Sess} (h:Sl Sess.cells 5 w B (.slice A n cap) l) {k:Nat} (hk:k < l.length) :
  ∃ b off,A = some ⟨b,off,none⟩ ∧ b < B ∧ w.cell? ⟨b,off + k * 5,none⟩ = some (.int .i64 l[k].number) ∧ w.cell? ⟨b,off + k * 5 + 1,none⟩ = some (.string ⟨l[k].who.toArray⟩) ∧
    w.cell? ⟨b,off + k * 5 + 2,none⟩ = some (.string ⟨l[k].text.toArray⟩) ∧ w.cell? ⟨b,off + k * 5 + 3,none⟩ = some (.int .i64 l[k].size) ∧ w.cell? ⟨b,off + k * 5 + 4,none⟩ = some (.int .i64 l[k].till):=by
 obtain ⟨b,off,hA,hB,hc⟩:=h.at rfl hk
 exact ⟨b,off,hA,hB,hc 0 _ rfl,hc 1 _ rfl,hc 2 _ rfl,hc 3 _ rfl,hc 4 _ rfl⟩
theorem Sl.gra {w:World} {B:Nat} {A:Option Addr} {n cap:Nat} {l:List Gra} (h:Sl Gra.cells 3 w B (.slice A n cap) l) {k:Nat} (hk:k < l.length) :
  ∃ b off,A = some ⟨b,off,none⟩ ∧ b < B ∧ w.cell? ⟨b,off + k * 3,none⟩ = some (.string ⟨l[k].folder.toArray⟩) ∧ w.cell? ⟨b,off + k * 3 + 1,none⟩ = some (.string ⟨l[k].who.toArray⟩) ∧
    w.cell? ⟨b,off + k * 3 + 2,none⟩ = some (.int .i64 l[k].right):=by
 obtain ⟨b,off,hA,hB,hc⟩:=h.at rfl hk
 exact ⟨b,off,hA,hB,hc 0 _ rfl,hc 1 _ rfl,hc 2 _ rfl⟩
theorem ZW {α:Type} {l:List α} {k:Nat} (h:k < l.length):l.take (k + 1) = l.take k ++ [l[k]]:=by
 rw [List.take_succ_eq_append_getElem h]
end Go.Proofs.YtiljlcgmcmjcoaaGreatDoor
set_option linter.unusedSimpArgs false
set_option linter.unnecessarySimpa false
namespace Go.Proofs.YtiljlcgmcmjcoaaGreatDoor
def qm:qC → List qC
 | [] => [[]]
 | c :: s=>if c = 47 then [] :: qm s else match qm s with | [] => [[c]]|n :: l=>(c :: n) :: l
def xh:List qC → qC
 | [] => []
 | [n]=>n
 | n :: l=>n ++ 47 :: xh l
theorem vi (p:qC):qm p ≠ []:=by
 cases p with
 | nil=>simp [qm]
 | cons c s=>simp only [qm];split<;>(try split)<;>simp
theorem xY : ∀ {a:qC},(47:UInt8) ∉ a → qm a = [a]
 | [],_=>rfl
 | c :: s,h=>by
   have hc:c ≠ 47:=fun e=>h (by simp [e])
   have hs:(47:UInt8) ∉ s:=fun e=>h (by simp [e])
   simp [qm,hc,xY hs]
theorem wI : ∀ {a:qC} (b:qC),(47:UInt8) ∉ a → qm (a ++ 47 :: b) = a :: qm b
 | [],b,_=>by simp [qm]
 | c :: s,b,h=>by
   have hc:c ≠ 47:=fun e=>h (by simp [e])
   have hs:(47:UInt8) ∉ s:=fun e=>h (by simp [e])
   simp [qm,hc,wI b hs]
theorem Xm : ∀ (p:qC), ∀ n,n ∈ qm p → (47:UInt8) ∉ n
 | [],n,h=>by simp [qm] at h;subst h;simp
 | c :: s,n,h=>by
   have ih:=Xm s
   simp only [qm] at h
   split at h
   ·rcases List.mem_cons.1 h with rfl|h
    ·simp
    ·exact ih n h
   ·rename_i hc
    split at h
    ·simp at h;subst h;simpa using fun e=>hc e.symm
    ·rename_i m l hm
     rcases List.mem_cons.1 h with rfl|h
     ·have:=ih m (by rw [hm];simp)
      simp only [List.mem_cons,not_or];exact ⟨fun e=>hc e.symm,this⟩
     ·exact ih n (by rw [hm];simp [h])
theorem z1 {n:qC} {l:List qC} (h:l ≠ []):xh (n :: l) = n ++ 47 :: xh l:=by
 cases l with
 | nil=>exact absurd rfl h
 | cons m l=>rfl
theorem vh : ∀ (p:qC),xh (qm p) = p
 | []=>rfl
 | c :: s=>by
   have ih:=vh s
   have hne:=vi s
   simp only [qm]
   split
   ·rename_i hc;subst hc
    rw [z1 hne,ih];rfl
   ·split
    ·rename_i h;exact absurd h hne
    ·rename_i n l h
     rw [h] at ih
     cases l with
     | nil=>simp only [xh] at ih ⊢;rw [ih]
     | cons m l=>rw [z1 (by simp)] at ih ⊢;rw [← ih];rfl
theorem YG : ∀ {l:List qC},l ≠ [] → (∀ n,n ∈ l → (47:UInt8) ∉ n) → qm (xh l) = l
 | [],h,_=>absurd rfl h
 | [n],_,hf=>xY (hf n (by simp))
 | n :: m :: l,_,hf=>by
   rw [z1 (by simp),wI _ (hf n (by simp)),YG (by simp) fun x hx=>hf x (by simp [hx])]
theorem Jr (p:qC):(qm p).length = p.count 47 + 1:=by
 induction p with
 | nil=>rfl
 | cons c s ih =>
   have hne:=vi s
   simp only [qm]
   split
   ·rename_i hc;subst hc;simp [ih]
   ·rename_i hc
    rw [List.count_cons_of_ne (fun e=>hc e)]
    split
    ·rename_i h;exact absurd h hne
    ·rename_i n l h;rw [h] at ih;exact ih
theorem z2 (a b:qC):qm (a ++ 47 :: b) = qm a ++ qm b:=by
 induction a with
 | nil=>simp [qm]
 | cons c s ih =>
   have hne:=vi s
   simp only [List.cons_append,qm,ih]
   split
   ·rfl
   ·split
    ·rename_i h;exact absurd (List.append_eq_nil_iff.1 h).1 hne
    ·rename_i n l h
     split
     ·rename_i h';exact absurd h' hne
     ·rename_i n' l' h'
      rw [h'] at h
      simp only [List.cons_append,List.cons.injEq] at h
      obtain ⟨rfl,rfl⟩:=h;rfl
theorem Q6 {a b:List qC} (ha:a ≠ []) (hb:b ≠ []):xh (a ++ b) = xh a ++ 47 :: xh b:=by
 induction a with
 | nil=>exact absurd rfl ha
 | cons n l ih =>
   cases l with
   | nil=>rw [List.singleton_append,z1 hb];rfl
   | cons m l=>rw [List.cons_append,z1 (l:=m :: l ++ b) (by simp),ih (by simp),z1 (n:=n) (l:=m :: l) (by simp)];simp
theorem qad (p q:qC):qm q <+: qm p ↔ p = q ∨ (q ++ [47]) <+: p:=by
 constructor
 ·rintro ⟨t,ht⟩
  cases t with
  | nil =>
    left
    rw [List.append_nil] at ht
    rw [← vh p, ← ht,vh]
  | cons n t =>
    right
    have h:=vh p
    rw [← ht,Q6 (vi q) (by simp),vh] at h
    exact ⟨xh (n :: t),by rw [List.append_assoc];exact h⟩
 ·rintro (rfl|⟨t,ht⟩)
  ·exact List.prefix_refl _
  ·rw [← ht,List.append_assoc]
   exact ⟨qm t,by rw [← z2];rfl⟩
def vn (c:UInt8):qC → Int
 | [] => -1
 | x :: l=>if 0 ≤ vn c l then vn c l + 1 else if x = c then 0 else -1
theorem zB {c:UInt8} : ∀ {p:qC},c ∉ p → vn c p = -1
 | [],_=>rfl
 | x :: l,h=>by
   have h1:¬ x = c:=fun e=>h (by simp [e])
   have h2:=zB (c:=c) (p:=l) fun e=>h (by simp [e])
   simp [vn,h2,h1]
theorem Qf {c:UInt8} : ∀ {a b:qC},c ∉ b → vn c (a ++ c :: b) = a.length
 | [],b,h=>by simp [vn,zB h]
 | x :: a,b,h=>by
   have h2:=Qf (a:=a) h
   simp only [List.cons_append,vn,h2,List.length_cons]
   rw [if_pos (by omega)];omega
theorem JL {c:UInt8} : ∀ (p:qC),c ∉ p ∨ ∃ a b,p = a ++ c :: b ∧ c ∉ b
 | [] => .inl (by simp)
 | x :: l=>by
   rcases JL (c:=c) l with h|⟨a,b,h1,h2⟩
   ·by_cases e:x = c
    ·exact .inr ⟨[],l,by simp [e],h⟩
    ·exact .inl (by simp only [List.mem_cons,not_or];exact ⟨fun h=>e h.symm,h⟩)
   ·exact .inr ⟨x :: a,b,by simp [h1],h2⟩
theorem qcd {c:UInt8} {p:qC} {k:Nat} (hk:k < p.length) (he:p[k] = c) (h:c ∉ p.drop (k + 1)):vn c p = k:=by
 have h1:p = p.take k ++ c :: p.drop (k + 1):=by rw [← he, ← List.drop_eq_getElem_cons hk,List.take_append_drop]
 rw [h1,Qf h,List.length_take,Nat.min_eq_left (by omega)]
theorem Zt (c:UInt8) (p:qC) : -1 ≤ vn c p ∧ vn c p < p.length:=by
 rcases JL (c:=c) p with h|⟨a,b,h1,h2⟩
 ·rw [zB h];omega
 ·rw [h1,Qf h2];simp;omega
def qR (p:qC):qC:=p.take (vn 47 p).toNat
def vp (p:qC):qC:=p.drop (vn 47 p + 1).toNat
theorem kn (p:qC):qm p = (qm p).dropLast ++ [vp p] ∧ xh (qm p).dropLast = qR p:=by
 rcases JL (c:=47) p with h|⟨a,b,h1,h2⟩
 ·rw [xY h,vp,qR,zB h]
  exact ⟨by simp,rfl⟩
 ·have h3:=Qf (a:=a) h2
  have h4:vp p = b:=by
   rw [vp,h1,h3,show ((a.length:Int) + 1).toNat = a.length + 1 from by omega]
   rw [List.drop_append,List.drop_of_length_le (by omega),List.nil_append,show a.length + 1 - a.length = 1 from by omega];rfl
  have h5:qR p = a:=by
   rw [qR,h1,h3,show (a.length:Int).toNat = a.length from by omega,List.take_left]
  have h6:qm p = qm a ++ [b]:=by rw [h1,z2,xY h2]
  rw [h4,h5,h6]
  exact ⟨by simp,by simp [vh]⟩
def yF (p:qC):Bool:=decide (6 < (qm p).length) || decide (80 < p.length)
def qM (p:qC):Int:=if (qm p).all ql then (if yF p then 2 else 0) else 1
theorem Jq (p:qC):yF p = (decide (6 ≤ p.count 47) || decide (80 < p.length)):=by
 unfold yF
 rw [Jr]
 congr 1
 simp only [decide_eq_decide];omega
def y6:List qC → Int
 | []=>0
 | p :: l=>if qM p = 0 then y6 l else qM p
def inB (p q:qC):Bool:=decide (p = q) || (q ++ [47]).isPrefixOf p
theorem V0 (p q:qC):inB p q = (qm q).isPrefixOf (qm p):=by
 rw [Bool.eq_iff_iff,List.isPrefixOf_iff_prefix,qad]
 simp [inB]
theorem Wj {p f t:qC} (h:inB p f = true):xh (qm t ++ (qm p).drop (qm f).length) = t ++ p.drop f.length:=by
 simp only [inB,Bool.or_eq_true,decide_eq_true_eq,List.isPrefixOf_iff_prefix] at h
 rcases h with rfl|⟨s,rfl⟩
 ·rw [List.drop_of_length_le (Nat.le_refl _),List.drop_of_length_le (Nat.le_refl _),List.append_nil,List.append_nil,vh]
 ·rw [List.append_assoc]
  show xh (qm t ++ (qm (f ++ 47 :: s)).drop (qm f).length) = _
  rw [z2,List.drop_left,Q6 (vi _) (vi _),vh,vh]
  congr 1
  rw [List.drop_left];rfl
theorem KG (s:qC):qm (s ++ [47]) = qm s ++ [[]]:=z2 s []
theorem qaq {c:UInt8} (h:¬ c = 47) (s:qC):qm (s ++ [c]) = (qm s).dropLast ++ [vp s ++ [c]]:=by
 rcases JL (c:=47) s with hs|⟨a,b,h1,h2⟩
 ·have h3:(47:UInt8) ∉ s ++ [c]:=by simp only [List.mem_append,List.mem_singleton,not_or];exact ⟨hs,fun e=>h e.symm⟩
  rw [xY h3,xY hs,vp,zB hs];rfl
 ·have h3:(47:UInt8) ∉ b ++ [c]:=by simp only [List.mem_append,List.mem_singleton,not_or];exact ⟨h2,fun e=>h e.symm⟩
  have h4:=(kn s).1
  have h5:qm s = qm a ++ [b]:=by rw [h1,z2,xY h2]
  have h6:vp s = b:=by
   rw [h5] at h4
   simp only [List.dropLast_concat] at h4
   have:=List.append_cancel_left h4
   simpa using this.symm
  rw [h6,h5,h1,List.append_assoc]
  show qm (a ++ 47 :: (b ++ [c])) = _
  rw [z2,xY h3,List.dropLast_concat]
theorem Ky (s:qC):(vp s).length ≤ s.length ∧ s.drop (s.length - (vp s).length) = vp s:=by
 unfold vp
 refine ⟨by simp,?_⟩
 rw [List.length_drop]
 by_cases h:(vn 47 s + 1).toNat ≤ s.length
 ·congr 1;omega
 ·have:=Zt 47 s;omega
theorem VP {l:List qC} {i:Nat} (h:i < l.length) (h0:0 < i):xh (l.take (i + 1)) = xh (l.take i) ++ [47] ++ l[i]:=by
 rw [List.take_succ_eq_append_getElem h,Q6 (by intro e;rw [List.take_eq_nil_iff] at e;rcases e with e|e<;>simp_all) (by simp)]
 simp [xh]
theorem Y2 {l:List qC} (h:0 < l.length):xh (l.take 1) = l[0]:=by
 cases l with
 | nil=>simp at h
 | cons x l=>simp [xh]
theorem qc4 {a b:List qC} (hl:b.length ≤ a.length) (h : ∀ k (hk:k < b.length),a[k] = b[k]):b.isPrefixOf a = true:=by
 rw [List.isPrefixOf_iff_prefix,List.prefix_iff_eq_take]
 refine List.ext_getElem (by simp;omega) fun i h1 h2=>?_
 rw [List.getElem_take];exact (h i h1).symm
theorem qcH {a b:List qC} (hl:¬ b.length ≤ a.length):b.isPrefixOf a = false:=by
 cases h:b.isPrefixOf a
 ·rfl
 ·exact absurd (List.isPrefixOf_iff_prefix.1 h).length_le hl
theorem qdk {a b:List qC} {k:Nat} (hl:b.length ≤ a.length) (hk:k < b.length) (h:¬ a[k] = b[k]):b.isPrefixOf a = false:=by
 cases e:b.isPrefixOf a
 ·rfl
 ·obtain ⟨t,rfl⟩:=List.isPrefixOf_iff_prefix.1 e
  exact absurd (List.getElem_append_left hk) h
end Go.Proofs.YtiljlcgmcmjcoaaGreatDoor
set_option linter.unusedSimpArgs false
namespace Go.Proofs.YtiljlcgmcmjcoaaGreatDoor
def j0 {α:Type} (p:α → Bool):List α → Int
 | [] => -1
 | x :: l=>if p x then 0 else if j0 p l < 0 then -1 else j0 p l + 1
theorem zu {α:Type} {p:α → Bool} : ∀ {l:List α} {k:Nat} (hk:k < l.length),(∀ x,x ∈ l.take k → p x = false) → p l[k] = true → j0 p l = k
 | x :: l,0,hk,_,hp=>by simp only [List.getElem_cons_zero] at hp;simp [j0,hp]
 | x :: l,k + 1,hk,h,hp=>by
   have hx:p x = false:=h x (by simp)
   have:=zu (l:=l) (k:=k) (by simpa using hk) (fun y hy=>h y (by simp [hy])) (by simpa using hp)
   simp only [j0,hx,Bool.false_eq_true,if_false,this]
   rw [if_neg (by omega)];omega
theorem vH {α:Type} {p:α → Bool} : ∀ {l:List α},(∀ x,x ∈ l → p x = false) → j0 p l = -1
 | [],_=>rfl
 | x :: l,h=>by
   have:=vH (l:=l) fun y hy=>h y (by simp [hy])
   simp [j0,h x (by simp),this]
theorem xZ {α:Type} (p:α → Bool) : ∀ (l:List α),(j0 p l = -1 ∧ ∀ x,x ∈ l → p x = false) ∨ ∃ (k:Nat) (h:k < l.length),j0 p l = k ∧ (∀ x,x ∈ l.take k → p x = false) ∧ p l[k] = true
 | [] => .inl ⟨rfl,by simp⟩
 | x :: l=>by
   by_cases hx:p x = true
   ·exact .inr ⟨0,by simp,by simp [j0,hx],by simp,by simpa using hx⟩
   ·have hx:p x = false:=by simpa using hx
    rcases xZ p l with ⟨h1,h2⟩|⟨k,hk,h1,h2,h3⟩
    ·exact .inl ⟨by simp [j0,hx,h1],by simpa [hx] using h2⟩
    ·refine .inr ⟨k + 1,by simpa using hk,?_,?_,by simpa using h3⟩
     ·simp only [j0,hx,Bool.false_eq_true,if_false,h1]
      rw [if_neg (by omega)];omega
     ·intro y hy
      simp only [List.take_succ_cons,List.mem_cons] at hy
      rcases hy with rfl|hy
      ·exact hx
      ·exact h2 y hy
theorem Vh {α:Type} (p:α → Bool) (l:List α):decide (0 ≤ j0 p l) = l.any p:=by
 rcases xZ p l with ⟨h1,h2⟩|⟨k,hk,h1,h2,h3⟩
 ·rw [h1,eq_comm,show decide ((0:Int) ≤ -1) = false from rfl,List.any_eq_false]
  intro x hx
  simp [h2 x hx]
 ·rw [h1,eq_comm,show decide ((0:Int) ≤ (k:Int)) = true from decide_eq_true (by omega),List.any_eq_true]
  exact ⟨l[k],List.getElem_mem _,h3⟩
theorem qJ {α:Type} {l:List α} {k:Nat} (hk:k < l.length) {p:α → Prop} (h : ∀ x,x ∈ l.take k → p x) (hx:p l[k]) : ∀ x,x ∈ l.take (k + 1) → p x:=by
 intro x hm
 rw [List.take_succ_eq_append_getElem hk] at hm
 rcases List.mem_append.1 hm with hm|hm
 ·exact h x hm
 ·simp at hm;exact hm ▸ hx
end Go.Proofs.YtiljlcgmcmjcoaaGreatDoor
set_option linter.unusedSimpArgs false
set_option linter.unnecessarySimpa false
namespace Go.Proofs.YtiljlcgmcmjcoaaGreatDoor
open Go.Op
def zm (a b:qC):Int:=if Op.bytesLess a b = true then -1 else if (!(Op.bytesLess a b || decide (a = b))) = true then 1 else 0
theorem w9 : ∀ (a b:List UInt8),(bytesLess a b = true ∧ bytesLess b a = false ∧ a ≠ b) ∨ (a = b ∧ bytesLess a b = false ∧ bytesLess b a = false) ∨ (bytesLess b a = true ∧ bytesLess a b = false ∧ a ≠ b)
 | [],[] => .inr (.inl ⟨rfl,rfl,rfl⟩)
 | [],b :: y => .inl ⟨rfl,rfl,by simp⟩
 | a :: x,[] => .inr (.inr ⟨rfl,rfl,by simp⟩)
 | a :: x,b :: y=>by
   simp only [bytesLess]
   by_cases h1:a < b
   ·have h2:¬ b < a:=by rw [UInt8.lt_iff_toNat_lt] at *;omega
    have h3:a ≠ b:=by rintro rfl;exact h2 h1
    have h4:b ≠ a:=fun h=>h3 h.symm
    exact .inl (by simp [h1,h2,h3,h4])
   ·by_cases h2:b < a
    ·have h3:a ≠ b:=by rintro rfl;exact h1 h2
     have h4:b ≠ a:=fun h=>h3 h.symm
     exact .inr (.inr (by simp [h1,h2,h3,h4]))
    ·have h3:a = b:=by
      have:a.toNat = b.toNat:=by rw [UInt8.lt_iff_toNat_lt] at *;omega
      exact UInt8.toNat.inj this
     subst h3
     simp only [h1,decide_false,Bool.false_or,beq_self_eq_true,Bool.true_and,List.cons.injEq,true_and,ne_eq]
     exact w9 x y
theorem vT : ∀ {a b c:List UInt8},bytesLess a b = true → bytesLess b c = true → bytesLess a c = true
 | _,_,[],_,h=>by cases ‹List UInt8›<;>simp [bytesLess] at h
 | a,[],_ :: _,h,_=>by cases a<;>simp [bytesLess] at h
 | [],_ :: _,_ :: _,_,_=>rfl
 | a :: x,b :: y,c :: z,h1,h2=>by
   simp only [bytesLess,Bool.or_eq_true,Bool.and_eq_true,decide_eq_true_eq,beq_iff_eq,UInt8.lt_iff_toNat_lt] at *
   rcases h1 with h1|⟨rfl,h1⟩
   ·rcases h2 with h2|⟨rfl,h2⟩
    ·exact .inl (by omega)
    ·exact .inl h1
   ·rcases h2 with h2|⟨rfl,h2⟩
    ·exact .inl h2
    ·exact .inr ⟨rfl,vT h1 h2⟩
theorem xp (a:List UInt8):bytesLess a a = false:=by
 rcases w9 a a with h|h|h
 ·exact absurd rfl h.2.2
 ·exact h.2.1
 ·exact absurd rfl h.2.2
theorem kR (a b:qC):zm a b < 0 ↔ bytesLess a b = true:=by
 unfold zm;rcases w9 a b with ⟨h1,h2,h3⟩|⟨rfl,h2,h3⟩|⟨h1,h2,h3⟩<;>simp [*]
theorem xG (a b:qC):zm a b = 0 ↔ a = b:=by
 unfold zm;rcases w9 a b with ⟨h1,h2,h3⟩|⟨rfl,h2,h3⟩|⟨h1,h2,h3⟩<;>simp [*]
theorem Kn (a b:qC):0 < zm a b ↔ bytesLess b a = true:=by
 unfold zm;rcases w9 a b with ⟨h1,h2,h3⟩|⟨rfl,h2,h3⟩|⟨h1,h2,h3⟩<;>simp [*]
theorem VR (a:qC):zm a a = 0:=(xG a a).2 rfl
def jU {α:Type} (f:α → Int):List α → Int
 | []=>0
 | x :: l=>if f x = 0 then jU f l else f x
def qv {α:Type} (lt:α → α → Bool):List α → Bool
 | []=>true
 | x :: l=>(match l with | []=>true|y :: _=>lt x y) && qv lt l
theorem jL {α:Type} {f:α → Int} : ∀ {l:List α},jU f l = 0 ↔ ∀ x,x ∈ l → f x = 0
 | []=>by simp [jU]
 | x :: l=>by
   simp only [jU,List.mem_cons,forall_eq_or_imp]
   by_cases h:f x = 0
   ·simp [h,jL (l:=l)]
   ·simp [h]
theorem kf {α:Type} {f:α → Int} {l:List α} {k:Nat} (hk:k < l.length) (h : ∀ x,x ∈ l.take k → f x = 0) (he:f l[k] ≠ 0):jU f l = f l[k]:=by
 induction l generalizing k with
 | nil=>simp at hk
 | cons x l ih =>
   cases k with
   | zero=>simp only [jU,List.getElem_cons_zero] at he ⊢;rw [if_neg he]
   | succ k =>
     have hx:f x = 0:=h x (by simp)
     simp only [jU,hx,if_true,List.getElem_cons_succ]
     exact ih (by simpa using hk) (fun y hy=>h y (by simp [hy])) (by simpa using he)
theorem yf {α:Type} {lt:α → α → Bool} : ∀ {l:List α},qv lt l = true ↔ ∀ (k:Nat) (h:k + 1 < l.length),lt (l[k]'(by omega)) l[k + 1] = true
 | []=>by simp [qv]
 | [x]=>by simp [qv]
 | x :: y :: l=>by
   have ih:=yf (lt:=lt) (l:=y :: l)
   simp only [qv,Bool.and_eq_true] at ih ⊢
   constructor
   ·rintro ⟨h1,h2⟩ k hk
    cases k with
    | zero=>exact h1
    | succ k=>exact ih.1 h2 k (by simpa using hk)
   ·intro h
    exact ⟨h 0 (by simp),ih.2 fun k hk=>h (k + 1) (by simpa using hk)⟩
structure Ent where
 path:qC
 fold:Bool
 text:qC
 ver:Int
 deriving DecidableEq
structure Chg where
 kind:Int
 path:qC
 to:qC
 text:qC
 base:Int
 deriving DecidableEq
def yt (a b:Ent):Bool:=bytesLess a.path b.path
def atP (p:qC) (x:Ent):Bool:=decide (x.path = p)
def xM (t:List Ent) (p:qC):Nat:=(t.takeWhile (fun x=>bytesLess x.path p)).length
def yV (t:List Ent) (p:qC):Bool:=t.any (atP p)
def v8 (n:Int):Bool:=decide (1 ≤ n) && decide (n ≤ 1000000)
def xI (e:Ent):Int:=if qM e.path = 0 then (if e.fold = true ∧ ¬ e.text = [] then 1 else if 300 < e.text.length then 2 else if v8 e.ver = true then 0 else 3) else qM e.path
def yC (t:List Ent) (q:qC):Int:=if q = [] then 0 else match t.find? (atP q) with|none=>5|some x=>if x.fold = true then 0 else 4
def yJ (t:List Ent) (x:Ent):Int:=yC t (qR x.path)
def jJ (t:List Ent):Int :=
 if 60 < t.length then 2
 else if jU xI t = 0 then
  if qv yt t = true then
   if t.any (fun x=>decide (yJ t x = 5)) = true then 5
   else if t.any (fun x=>decide (¬ yJ t x = 0)) = true then 4 else 0
  else 4
 else jU xI t
theorem zW {t:List Ent} (h:qv yt t = true) : ∀ (j k:Nat) (hj:j < t.length) (hk:k < t.length),j < k → bytesLess t[j].path t[k].path = true:=by
 intro j k hj hk hjk
 induction k with
 | zero=>omega
 | succ k ih =>
   have h1:bytesLess t[k].path t[k + 1].path = true:=yf.1 h k hk
   by_cases e:j = k
   ·subst e;exact h1
   ·exact vT (ih (by omega) (by omega)) h1
theorem zf {t:List Ent}:qv yt t = true ↔ t.Pairwise (fun a b=>bytesLess a.path b.path = true):=by
 rw [List.pairwise_iff_getElem]
 constructor
 ·intro h i j hi hj hij
  exact zW h i j hi hj hij
 ·intro h
  exact yf.2 fun k hk=>h k (k + 1) (by omega) hk (by omega)
theorem qas {p:qC} : ∀ {t:List Ent} {k:Nat},k ≤ t.length → (∀ (j:Nat) (h:j < t.length),j < k → bytesLess t[j].path p = true) → (∀ (h:k < t.length),bytesLess t[k].path p = false) → xM t p = k
 | [],k,hk,_,_=>by simp at hk;simp [xM,hk]
 | x :: l,0,hk,_,h2=>by
   have:=h2 (by simp)
   simp only [List.getElem_cons_zero] at this
   simp [xM,List.takeWhile_cons,this]
 | x :: l,k + 1,hk,h1,h2=>by
   have hx:bytesLess x.path p = true:=h1 0 (by simp) (by omega)
   have:=qas (t:=l) (k:=k) (by simpa using hk) (fun j h hj=>h1 (j + 1) (by simpa using h) (by omega)) (fun h=>h2 (by simpa using h))
   simp only [xM] at this
   simp [xM,List.takeWhile_cons,hx,this]
theorem qg5 (t:List Ent) (p:qC):xM t p ≤ t.length:=by
 induction t with
 | nil=>simp [xM]
 | cons x l ih=>simp only [xM,List.takeWhile_cons] at *;split<;>simp<;>omega
theorem qdK {t:List Ent} {p:qC} (hs:qv yt t = true) {k:Nat} (hk:k < t.length) (he:t[k].path = p):xM t p = k:=by
 refine qas (by omega) (fun j hj hjk=>?_) (fun _=>?_)
 ·rw [← he];exact zW hs j k hj hk hjk
 ·rw [← he];exact xp _
theorem qbb {t:List Ent} {p:qC} (hs:qv yt t = true):yV t p = (match t[xM t p]? with|some x=>decide (zm x.path p = 0)|none=>false):=by
 rcases xZ (atP p) t with ⟨_,h2⟩|⟨k,hk,_,_,h3⟩
 ·have:yV t p = false:=List.any_eq_false.2 (fun x hx=>by rw [h2 x hx];simp)
  rw [this]
  split
  ·rename_i x hx
   have hm:=List.mem_of_getElem? hx
   have:=h2 x hm
   rw [eq_comm,decide_eq_false_iff_not,xG]
   simpa [atP] using this
  ·rfl
 ·have he:t[k].path = p:=by simpa [atP] using h3
  have:yV t p = true:=List.any_eq_true.2 ⟨t[k],List.getElem_mem _,h3⟩
  rw [this,qdK hs hk he,List.getElem?_eq_getElem hk]
  simp [he,VR]
theorem kW {t:List Ent} {p:qC} (hs:qv yt t = true) (h:yV t p = true) : ∃ hk:xM t p < t.length,t[xM t p].path = p ∧ t.find? (atP p) = some t[xM t p] ∧ j0 (atP p) t = xM t p:=by
 obtain ⟨x,hx,hk⟩:=List.any_eq_true.1 h
 obtain ⟨k,hkl,rfl⟩:=List.getElem_of_mem hx
 have he:t[k].path = p:=by simpa [atP] using hk
 have hp:=qdK hs hkl he
 have hbef : ∀ j (hj:j < k),atP p (t[j]'(by omega)) = false:=fun j hj=>by
  have h1:=zW hs j k (by omega) hkl hj
  have:¬ t[j].path = p:=fun e=>by rw [e,he,xp] at h1;cases h1
  simp [atP,this]
 refine ⟨by omega,by simp only [hp];exact he,?_,?_⟩
 ·simp only [hp]
  rw [List.find?_eq_some_iff_getElem]
  exact ⟨hk,k,hkl,rfl,fun j hj=>by rw [hbef j hj];rfl⟩
 ·rw [hp]
  refine zu hkl (fun x hx=>?_) hk
  obtain ⟨j,hj,rfl⟩:=List.getElem_of_mem hx
  rw [List.getElem_take]
  exact hbef j (by simp at hj;omega)
theorem x9 {t:List Ent} {p:qC} (h:yV t p = false):t.find? (atP p) = none ∧ j0 (atP p) t = -1:=by
 have h1:=List.any_eq_false.1 h
 exact ⟨List.find?_eq_none.2 h1,vH fun x hx=>by simpa using h1 x hx⟩
theorem Q0 {α:Type} (p:α → Bool) (l:List α):(j0 p l = -1 ∧ l.find? p = none) ∨ ∃ (k:Nat) (h:k < l.length),j0 p l = k ∧ l.find? p = some l[k]:=by
 rcases xZ p l with ⟨h1,h2⟩|⟨k,hk,h1,h2,h3⟩
 ·exact .inl ⟨h1,List.find?_eq_none.2 fun x hx=>by rw [h2 x hx];simp⟩
 ·refine .inr ⟨k,hk,h1,?_⟩
  rw [List.find?_eq_some_iff_getElem]
  refine ⟨h3,k,hk,rfl,fun j hj=>?_⟩
  rw [h2 _ (List.mem_take_iff_getElem.2 ⟨j,by omega,rfl⟩)];rfl
end Go.Proofs.YtiljlcgmcmjcoaaGreatDoor
namespace Go.Proofs.YtiljlcgmcmjcoaaGreatDoor
def qA (n a b:Int):Bool:=decide (a ≤ n) && decide (n ≤ b)
def j9 (l:List Sess) (who:qC):Int:=(l.map fun s=>if s.who = who then s.size else 0).sum
def yj (next:Int) (s:Sess):Int :=
 if qA s.number 1 (next - 1) && qA s.size 0 300 && qA s.till 0 2199023255552 then
  if ql s.who then if s.size < s.text.length then 2 else 0 else 1
 else 3
def zH (u:Upl):Bool:=qA u.lasts 1 1000000 && qA u.room 0 100000 && qA u.next 1 1099511627776
def ZQ (u:Upl):Bool:=u.sess.all fun s=>decide (j9 u.sess s.who ≤ u.room)
def yM (u:Upl):Int :=
 if zH u then
  if 20 < u.sess.length then 2
  else if jU (yj u.next) u.sess = 0 then
   if qv (fun a b=>decide (a.number < b.number)) u.sess then
    if ZQ u then 0 else 10
   else 4
  else jU (yj u.next) u.sess
 else 3
theorem zh {next:Int} {s:Sess} (h:yj next s = 0):0 ≤ s.size ∧ s.size ≤ 300:=by
 unfold yj at h
 split at h
 ·rename_i h1
  simp [qA] at h1;omega
 ·cases h
theorem Vz (l:List Sess) (s:Sess) (who:qC):j9 (l ++ [s]) who = j9 l who + (if s.who = who then s.size else 0):=by simp [j9]
theorem Vr {l:List Sess} {k:Nat} (h:k < l.length) (who:qC):j9 (l.take (k + 1)) who = j9 (l.take k) who + (if l[k].who = who then l[k].size else 0):=by
 rw [List.take_succ_eq_append_getElem h,Vz]
theorem X8 {l:List Sess} (who:qC) (h : ∀ s,s ∈ l → 0 ≤ s.size ∧ s.size ≤ 300):0 ≤ j9 l who ∧ j9 l who ≤ 300 * l.length:=by
 induction l with
 | nil=>simp [j9]
 | cons s l ih =>
   obtain ⟨h1,h2⟩:=ih fun s hs=>h s (List.mem_cons_of_mem _ hs)
   obtain ⟨h3,h4⟩:=h s (List.mem_cons_self ..)
   have:j9 (s :: l) who = (if s.who = who then s.size else 0) + j9 l who:=by simp [j9]
   rw [this]
   split<;>simp<;>omega
theorem Vp {l:List Sess} (who:qC) (h : ∀ s,s ∈ l → 0 ≤ s.size ∧ s.size ≤ 300) (k:Nat):0 ≤ j9 (l.take k) who ∧ j9 (l.take k) who ≤ 300 * k:=by
 obtain ⟨h1,h2⟩:=X8 (l:=l.take k) who (fun s hs=>h s (List.mem_of_mem_take hs))
 exact ⟨h1,by have:(l.take k).length ≤ k:=List.length_take_le _ _;omega⟩
theorem YP {α:Type} {p:α → Bool} {l:List α} {k:Nat} (hk:k < l.length) (hp:p l[k] = true):(l.take (k + 1)).filter p = (l.take k).filter p ++ [l[k]]:=by
 rw [List.take_succ_eq_append_getElem hk,List.filter_append];simp [hp]
theorem Qo {α:Type} {p:α → Bool} {l:List α} {k:Nat} (hk:k < l.length) (hp:p l[k] = false):(l.take (k + 1)).filter p = (l.take k).filter p:=by
 rw [List.take_succ_eq_append_getElem hk,List.filter_append];simp [hp]
structure Del {α:Type} (p:α → Bool) (l:List α) (i j:Nat) (R:List α):Prop where
 len:R.length = l.length
 le:i ≤ j
 jn:j ≤ l.length
 head:R.take i = (l.take j).filter p
 tail:R.drop j = l.drop j
theorem Del.start {α:Type} {p:α → Bool} {l:List α} {i:Nat} (hi:i < l.length) (ha:(l.take i).all p = true) (hp:p l[i] = false):Del p l i (i + 1) l where
 len:=rfl
 le:=by omega
 jn:=by omega
 head:=by
  rw [Qo hi hp]
  symm
  rw [List.filter_eq_self]
  intro a hm
  rw [List.all_eq_true] at ha
  exact ha a hm
 tail:=rfl
theorem Del.at {α:Type} {p:α → Bool} {l:List α} {i j:Nat} {R:List α} (h:Del p l i j R) (hj:j < l.length):R[j]'(by rw [h.len];exact hj) = l[j]:=by
 have h1:=congrArg (fun x=>x[0]?) h.tail
 simp only [List.getElem?_drop,Nat.add_zero] at h1
 rw [List.getElem?_eq_getElem (by rw [h.len];exact hj),List.getElem?_eq_getElem hj] at h1
 injection h1
theorem Del.drop {α:Type} {p:α → Bool} {l:List α} {i j:Nat} {R:List α} (h:Del p l i j R) (hj:j < l.length) (hp:p l[j] = false):Del p l i (j + 1) R where
 len:=h.len
 le:=by have:=h.le;omega
 jn:=by omega
 head:=by rw [Qo hj hp,h.head]
 tail:=by
  have:=congrArg (List.drop 1) h.tail
  rwa [List.drop_drop,List.drop_drop] at this
theorem Del.keep {α:Type} {p:α → Bool} {l:List α} {i j:Nat} {R:List α} (h:Del p l i j R) (hj:j < l.length) (hp:p l[j] = true):Del p l (i + 1) (j + 1) (R.set i l[j]) where
 len:=by rw [List.length_set,h.len]
 le:=by have:=h.le;omega
 jn:=by omega
 head:=by
  have hi:i < R.length:=by have:=h.le;rw [h.len];omega
  rw [YP hj hp, ← h.head,List.take_succ_eq_append_getElem (by simpa using hi),List.take_set_of_le (Nat.le_refl _)]
  simp
 tail:=by
  have:=congrArg (List.drop 1) h.tail
  rw [List.drop_drop,List.drop_drop] at this
  rw [List.drop_set_of_lt (by have:=h.le;omega)]
  exact this
theorem Del.end_ {α:Type} {p:α → Bool} {l:List α} {i j:Nat} {R:List α} (h:Del p l i j R) (hj:¬ j < l.length):R.take i = l.filter p:=by
 have:=h.head
 rwa [List.take_of_length_le (l:=l) (by omega)] at this
end Go.Proofs.YtiljlcgmcmjcoaaGreatDoor
