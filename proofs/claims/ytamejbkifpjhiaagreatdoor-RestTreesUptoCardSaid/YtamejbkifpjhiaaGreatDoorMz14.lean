import Derived.Test.YtamejbkifpjhiaaGreatDoorMz13
import Derived.Test.YtamejbkifpjhiaaGreatDoorMz11
import Derived.Test.YtamejbkifpjhiaaGreatDoorMz9
set_option linter.unusedSimpArgs false
set_option linter.unnecessarySimpa false
set_option linter.unusedVariables false
set_option maxHeartbeats 1000000
namespace Go.Proofs.YtamejbkifpjhiaaGreatDoor
open Go.Ab Go.RowKit
set_option maxRecDepth 10000
attribute [local irreducible] Awp yH jH jw Red ja Go.Ab.Fin qZ Rz vn jr jp ResOk j3 jC yC jA
theorem JW {t:List Ent} {c:Chg} {v:Int} (h:yJ t c v = 0):Right t ∧ vj v = true ∧ vb t c v = 0 ∧ vf t c v = jh t c v ∧ Right (jh t c v):=by
 have h0:=h
 unfold yJ at h
 split at h
 ·contradiction
 ·rename_i h1
  split at h
  ·exact absurd h (by decide)
  ·rename_i h2
   have h1:qC t = 0:=by omega
   have hv:vj v = true:=by simpa using h2
   have hR:=jT.1 h1
   exact ⟨hR,hv,h,by unfold vf;rw [if_pos h0],Vz hR hv h⟩
end Go.Proofs.YtamejbkifpjhiaaGreatDoor
set_option linter.unusedSimpArgs false
set_option linter.unnecessarySimpa false
set_option linter.unusedVariables false
set_option maxHeartbeats 1000000
namespace Go.Proofs.YtamejbkifpjhiaaGreatDoor
open Go.Ab Go.RowKit
set_option maxRecDepth 10000
attribute [local irreducible] Awp yH jH jw Red ja Go.Ab.Fin qZ Rz vn jr jp ResOk j3 jC yC jA
theorem KE {a b:List Ent} (ha:Right a) (hb:Right b):(YT a b).length ≤ 120:=by
 have h1:=Xf a b
 have h2:(b.filter fun x => !yQ a x).length ≤ b.length:=List.length_filter_le ..
 have:=ha.len
 have:=hb.len
 simp only [YT,List.length_append,List.length_map];omega
def x7 (v:Int):List Ent → List Chg → List Ent × Int
 | t,[]=>(t,0)
 | t,c :: l=>if yJ t c v = 0 then x7 v (jh t c v) l else ([],yJ t c v)
def kL (v:Int) (t:List Ent) (l:List Chg):List Ent × Int:=if ¬ qC t = 0 then ([],qC t) else if 120 < l.length then ([],2) else x7 v t l
theorem qa2 {v:Int} {t:List Ent} {l:List Chg} {i:Nat} (h:i < l.length):x7 v t (l.drop i) = if yJ t l[i] v = 0 then x7 v (jh t l[i] v) (l.drop (i + 1)) else ([],yJ t l[i] v):=by
 rw [List.drop_eq_getElem_cons h];rfl
end Go.Proofs.YtamejbkifpjhiaaGreatDoor
set_option linter.unusedSimpArgs false
set_option linter.unnecessarySimpa false
set_option linter.unusedVariables false
namespace Go.Proofs.YtamejbkifpjhiaaGreatDoor
open Go.Op
structure Thg where
 kind:Int
 text:qP
 deriving DecidableEq
def noT:Thg:=⟨0,[]⟩
def xS (x:Ent):Thg:=if x.fold = true then ⟨1,[]⟩ else ⟨2,x.text⟩
def stT (t:List Ent) (p:qP):Thg:=match qW t p with|none=>noT|some x=>xS x
structure Cpy where
 path:qP
 at_:qP
 deriving DecidableEq
def QW (p:qP) (x:Thg):Ent:=⟨p,decide (x.kind = 1),x.text,1⟩
def JL (b x y:Thg):Thg × Thg :=
 if x = y then (x,noT) else if x = b then (y,noT) else if y = b then (x,noT)
 else if x.kind = 1 then (x,y) else if y.kind = 1 then (y,x)
 else if x.kind = 2 ∧ y.kind = 2 then (y,x) else if x.kind = 2 then (x,noT) else (y,noT)
def wy (o:List Ent) (p:qP) (x:Thg):List Ent:=if x.kind = 0 then o else jR o (QW p x)
def zE (l:List qP) (s:qP):List qP:=if s ∈ l then l else l.takeWhile (fun x=>bytesLess x s) ++ s :: l.dropWhile (fun x=>bytesLess x s)
def ze (b m t:List Ent):List qP:=((b ++ (m ++ t)).map Ent.path).foldl zE []
def x3 (b m t:List Ent) (p:qP):Thg × Thg:=JL (stT b p) (stT m p) (stT t p)
def xK (b m t:List Ent) (P:List qP):List Ent:=P.foldl (fun o p=>wy o p (x3 b m t p).1) []
def yK (b m t:List Ent) (P:List qP):List (qP × qP):=P.filterMap fun p=>if (x3 b m t p).2.kind = 2 then some (p,(x3 b m t p).2.text) else none
def JQ (m t o:List Ent) (q:qP):Bool := !j0 m q && !j0 t q && !j0 o q
def xX (m t o:List Ent) (p:qP):Nat → Nat → Option qP
 | 0,_=>none
 | k + 1,n=>if vC p (n:Int) = 0 then (if JQ m t o (yI p (n:Int)) = true then some (yI p (n:Int)) else xX m t o p k (n + 1)) else none
structure MS where
 out:List Ent
 cps:List Cpy
def zg (m t:List Ent) (s:MS) (p x:qP):Option MS :=
 match xX m t s.out p 99 1 with
 | none=>none
 | some q=>some ⟨jR s.out ⟨q,false,x,1⟩,s.cps ++ [⟨p,q⟩]⟩
def Vd (m t:List Ent):List (qP × qP) → MS → Option MS
 | [],s=>some s
 | g :: l,s=>match zg m t s g.1 g.2 with|none=>none|some s'=>Vd m t l s'
def YQ (m t:List Ent) (s:MS) (q:qP):Option MS :=
 if (stT s.out q).kind = 1 then some s
 else if (stT s.out q).kind = 2 then zg m t ⟨jR s.out ⟨q,true,[],1⟩,s.cps⟩ q (stT s.out q).text
 else some ⟨jR s.out ⟨q,true,[],1⟩,s.cps⟩
def kn (m t:List Ent):List qP → MS → Option MS
 | [],s=>some s
 | q :: l,s=>match YQ m t s q with|none=>none|some s'=>kn m t l s'
def jE (p:qP):List qP:=(List.range ((qu p).length - 1)).map fun k=>yV ((qu p).take (k + 1))
def vG (b m t:List Ent):Option MS :=
 match Vd m t (yK b m t (ze b m t)) ⟨xK b m t (ze b m t),[]⟩ with
 | none=>none
 | some s=>kn m t ((s.out.map Ent.path).flatMap jE) s
def zV (t:List Ent) (e:Ent):Option Int:=match qW t e.path with|none=>none|some x=>if xS x = xS e then some x.ver else none
def kK (m t:List Ent) (e:Ent):Int:=match zV t e with|some v=>v|none=>match zV m e with|some v=>v|none=>1
def vl (m t:List Ent) (e:Ent):Ent := { e with ver:=kK m t e }
def zh (b m t:List Ent):List Ent × List Cpy × Int :=
 match vG b m t with
 | none=>([],[],2)
 | some s=>if 60 < s.out.length then ([],[],2) else (s.out.map (vl m t),s.cps,0)
def xP (b m t:List Ent):List Ent × List Cpy × Int:=if jK qC [b,m,t] = 0 then zh b m t else ([],[],jK qC [b,m,t])
def kP (x:Thg):Prop:=(x.kind = 0 ∧ x.text = []) ∨ (x.kind = 1 ∧ x.text = []) ∨ x.kind = 2
theorem qfI {x y:Thg} (h1:x.kind = y.kind) (h2:x.text = y.text):x = y:=by
 obtain ⟨a,b⟩:=x
 obtain ⟨c,d⟩:=y
 simp at h1 h2
 rw [h1,h2]
theorem qfd (x:Ent):kP (xS x):=by
 unfold xS
 split
 ·exact .inr (.inl ⟨rfl,rfl⟩)
 ·exact .inr (.inr rfl)
theorem ku (t:List Ent) (p:qP):kP (stT t p):=by
 unfold stT
 split
 ·exact .inl ⟨rfl,rfl⟩
 ·exact qfd _
theorem qeD (x:Ent):(xS x).kind = 1 ∨ (xS x).kind = 2:=by
 unfold xS
 split
 ·exact .inl rfl
 ·exact .inr rfl
theorem KL {t:List Ent} {p:qP}:(stT t p).kind = 0 ↔ qW t p = none:=by
 unfold stT
 cases h:qW t p with
 | none=>simp [noT]
 | some x=>rcases qeD x with h1|h1<;>simp [h1]
theorem qeC {t:List Ent} {p:qP}:(stT t p).kind = 1 ↔ ∃ x,qW t p = some x ∧ x.fold = true:=by
 unfold stT
 cases h:qW t p with
 | none=>simp [noT]
 | some x =>
   unfold xS
   cases hf:x.fold<;>simp [hf]
theorem qgz {t:List Ent} {p s:qP}:stT t p = ⟨2,s⟩ ↔ ∃ x,qW t p = some x ∧ x.fold = false ∧ x.text = s:=by
 unfold stT
 cases h:qW t p with
 | none=>simp [noT]
 | some x =>
   unfold xS
   cases hf:x.fold<;>simp [hf]
theorem KP {p:qP} {x:Thg} (h:kP x) (h0:¬ x.kind = 0):xS (QW p x) = x:=by
 obtain ⟨k,s⟩:=x
 unfold xS QW
 rcases h with ⟨h,_⟩|⟨h,h2⟩|h
 ·exact absurd h h0
 ·simp at h h2;subst h;subst h2;rfl
 ·simp at h;subst h;rfl
theorem WO {b x y:Thg} (hx:kP x) (hy:kP y):kP (JL b x y).1 ∧ kP (JL b x y).2:=by
 have hn:kP noT := .inl ⟨rfl,rfl⟩
 unfold JL
 (repeat' split)<;>exact ⟨by assumption,by assumption⟩
def Qa (l:List qP):Prop:=l.Pairwise fun a b=>bytesLess a b = true
theorem qaa : ∀ {t u:List qP},Qa t → Qa u → (∀ x,x ∈ t ↔ x ∈ u) → t = u
 | [],[],_,_,_=>rfl
 | [],y :: u,_,_,h=>absurd ((h y).2 (by simp)) (by simp)
 | x :: t,[],_,_,h=>absurd ((h x).1 (by simp)) (by simp)
 | x :: t,y :: u,ht,hu,h=>by
   have ht1:=List.pairwise_cons.1 ht
   have hu1:=List.pairwise_cons.1 hu
   have hxy:x = y:=by
    rcases List.mem_cons.1 ((h x).1 (by simp)) with h1|h1
    ·exact h1
    ·rcases List.mem_cons.1 ((h y).2 (by simp)) with h2|h2
     ·exact h2.symm
     ·have h3:=ht1.1 y h2
      have h4:=hu1.1 x h1
      rw [Ym h3] at h4;cases h4
   subst hxy
   refine congrArg _ (qaa ht1.2 hu1.2 fun z=>⟨fun hz=>?_,fun hz=>?_⟩)
   ·rcases List.mem_cons.1 ((h z).1 (by simp [hz])) with h1|h1
    ·subst h1
     have:=ht1.1 z hz
     rw [vD] at this;cases this
    ·exact h1
   ·rcases List.mem_cons.1 ((h z).2 (by simp [hz])) with h1|h1
    ·subst h1
     have:=hu1.1 z hz
     rw [vD] at this;cases this
    ·exact h1
theorem qeh {l:List qP} {s x:qP}:x ∈ zE l s ↔ x = s ∨ x ∈ l:=by
 unfold zE
 split
 ·rename_i h
  constructor
  ·exact .inr
  ·rintro (rfl|h1)
   ·exact h
   ·exact h1
 ·have:l = l.takeWhile (fun x=>bytesLess x s) ++ l.dropWhile (fun x=>bytesLess x s):=List.takeWhile_append_dropWhile.symm
  constructor
  ·intro h
   rcases List.mem_append.1 h with h1|h1
   ·right;rw [this];exact List.mem_append_left _ h1
   ·rcases List.mem_cons.1 h1 with h2|h2
    ·exact .inl h2
    ·right;rw [this];exact List.mem_append_right _ h2
  ·rintro (rfl|h)
   ·exact List.mem_append_right _ (List.mem_cons_self ..)
   ·rw [this] at h
    rcases List.mem_append.1 h with h1|h1
    ·exact List.mem_append_left _ h1
    ·exact List.mem_append_right _ (List.mem_cons_of_mem _ h1)
theorem qes : ∀ {l:List qP} {s:qP},Qa l → Qa (zE l s):=by
 intro l s h
 unfold zE
 split
 ·exact h
 ·rename_i hs
  have key : ∀ {l:List qP},Qa l → s ∉ l → Qa (l.takeWhile (fun x=>bytesLess x s) ++ s :: l.dropWhile (fun x=>bytesLess x s)):=by
   intro l
   induction l with
   | nil=>intro _ _;exact List.pairwise_singleton _ _
   | cons a l ih =>
     intro h hs
     have h1:=List.pairwise_cons.1 h
     simp only [List.mem_cons,not_or] at hs
     by_cases ha:bytesLess a s = true
     ·simp only [List.takeWhile_cons,List.dropWhile_cons,ha,if_true,List.cons_append]
      refine List.pairwise_cons.2 ⟨fun y hy=>?_,ih h1.2 hs.2⟩
      rcases List.mem_append.1 hy with h2|h2
      ·exact h1.1 y ((List.takeWhile_sublist _).subset h2)
      ·rcases List.mem_cons.1 h2 with rfl|h2
       ·exact ha
       ·exact h1.1 y ((List.dropWhile_sublist _).subset h2)
     ·have ha' : bytesLess a s = false:=by simpa using ha
      simp only [List.takeWhile_cons,List.dropWhile_cons,ha',Bool.false_eq_true,if_false,List.nil_append]
      have hsa:bytesLess s a = true:=by
       rcases wN s a with h2|h2|h2
       ·exact h2.1
       ·exact absurd h2.1 hs.1
       ·exact absurd h2.1 ha
      refine List.pairwise_cons.2 ⟨fun y hy=>?_,h⟩
      rcases List.mem_cons.1 hy with rfl|h2
      ·exact hsa
      ·exact kw hsa (h1.1 y h2)
  exact key h hs
theorem Ji {L:List qP} : ∀ {l:List qP},Qa l → Qa (L.foldl zE l) ∧ ∀ x,x ∈ L.foldl zE l ↔ x ∈ L ∨ x ∈ l:=by
 induction L with
 | nil=>intro l h;exact ⟨h,fun x=>by simp⟩
 | cons a L ih =>
   intro l h
   obtain ⟨h1,h2⟩:=ih (qes (s:=a) h)
   refine ⟨h1,fun x=>?_⟩
   rw [List.foldl_cons,h2,qeh,List.mem_cons]
   constructor
   ·rintro (h|h|h)
    ·exact .inl (.inr h)
    ·exact .inl (.inl h)
    ·exact .inr h
   ·rintro ((h|h)|h)
    ·exact .inr (.inl h)
    ·exact .inl h
    ·exact .inr (.inr h)
theorem qdw (b m t:List Ent):Qa (ze b m t):=(Ji List.Pairwise.nil).1
theorem qeg {b m t:List Ent} {p:qP}:p ∈ ze b m t ↔ ¬ qW b p = none ∨ ¬ qW m p = none ∨ ¬ qW t p = none:=by
 have h1 : ∀ u:List Ent,p ∈ u.map Ent.path ↔ ¬ qW u p = none:=fun u=>by
  rw [xG,List.mem_map]
  constructor
  ·rintro ⟨x,h1,h2⟩ h3;exact h3 x h1 h2
  ·intro h
   exact Classical.byContradiction fun h2=>h fun x hx e=>h2 ⟨x,hx,e⟩
 unfold ze
 rw [(Ji List.Pairwise.nil).2,List.map_append,List.map_append,List.mem_append,List.mem_append,h1,h1,h1]
 simp
end Go.Proofs.YtamejbkifpjhiaaGreatDoor
set_option linter.unusedSimpArgs false
set_option linter.unnecessarySimpa false
set_option linter.unusedVariables false
namespace Go.Proofs.YtamejbkifpjhiaaGreatDoor
open Go.Op
theorem YR {p:qP} {k:Nat} (hk:k + 1 < (qu p).length):qu (yV ((qu p).take (k + 1))) = (qu p).take (k + 1) :=
 QB (fun e=>by have h2:=congrArg List.length e;rw [List.length_take,List.length_nil] at h2;omega) fun n hn=>QA p n (List.mem_of_mem_take hn)
theorem VV {p a:qP}:a ∈ jE p ↔ inB p a = true ∧ ¬ a = p:=by
 unfold jE
 rw [List.mem_map]
 constructor
 ·rintro ⟨k,hk,rfl⟩
  have hk:=List.mem_range.1 hk
  have hn:=YR (p:=p) (k:=k) (by omega)
  refine ⟨by rw [kY,hn];exact List.take_prefix _ _,fun e=>?_⟩
  rw [e] at hn
  have:=congrArg List.length hn
  rw [List.length_take] at this
  omega
 ·rintro ⟨h1,h2⟩
  have h3:=kY.1 h1
  obtain ⟨s,hs⟩:=h3
  have hsn:s ≠ []:=fun e=>h2 (by rw [e,List.append_nil] at hs;rw [← y2 a,hs,y2])
  have hl:=congrArg List.length hs
  rw [List.length_append] at hl
  have hp:=List.length_pos_iff.2 hsn
  have ha:=List.length_pos_iff.2 (xB a)
  refine ⟨(qu a).length - 1,List.mem_range.2 (by omega),?_⟩
  rw [show (qu a).length - 1 + 1 = (qu a).length from by omega, ← hs,List.take_left,y2]
theorem yO (p:qP):(jE p).length = (qu p).length - 1:=by simp [jE]
theorem vH {p:qP} {k:Nat} (hk:k < (jE p).length):(jE p)[k] = yV ((qu p).take (k + 1)):=by simp [jE]
theorem WW {p:qP} {k:Nat} (hk:k < (jE p).length):jE (jE p)[k] = (jE p).take k:=by
 rw [yO] at hk
 rw [vH (by rw [yO];exact hk)]
 have hn:=YR (p:=p) (k:=k) (by omega)
 apply List.ext_getElem
 ·rw [yO,hn,List.length_take,List.length_take,yO];omega
 ·intro i h1 h2
  rw [vH h1,List.getElem_take,vH,hn,List.take_take]
  congr 2
  rw [yO,hn,List.length_take] at h1
  omega
theorem qcR {p q:qP} (hp:qH p = 0) (hq:qH q = 0) (h:qJ p = qJ q):jE p = jE q:=by
 have hd:(qu p).dropLast = (qu q).dropLast:=by
  have a1:=(vN p).2
  have a2:=(vN q).2
  by_cases e1:(qu p).dropLast = []
  ·by_cases e2:(qu q).dropLast = []
   ·rw [e1,e2]
   ·have h3:=wa e2
    rw [← h, ← a1,e1] at h3
    exact absurd rfl (vy hq [] (List.dropLast_subset _ (by rw [← h3];simp [yV,qu])))
  ·have h3:=wa e1
   by_cases e2:(qu q).dropLast = []
   ·rw [h, ← a2,e2] at h3
    exact absurd rfl (vy hp [] (List.dropLast_subset _ (by rw [← h3];simp [yV,qu])))
   ·rw [← h3,h,wa e2]
 have hl:=congrArg List.length hd
 rw [List.length_dropLast,List.length_dropLast] at hl
 apply List.ext_getElem
 ·rw [yO,yO,hl]
 ·intro i h1 h2
  rw [vH h1,vH h2]
  rw [yO] at h1 h2
  have g : ∀ l:List qP,i < l.length - 1 → l.take (i + 1) = l.dropLast.take (i + 1):=fun l hl=>by
   rw [List.dropLast_eq_take,List.take_take,Nat.min_eq_left (by omega)]
  rw [g _ h1,g _ h2,hd]
theorem QD {p a:qP} (hp:qH p = 0) (h:a ∈ jE p):qH a = 0:=by
 obtain ⟨h1,h2⟩:=VV.1 h
 obtain ⟨g1,g2⟩:=xD.1 hp
 have h3:=kY.1 h1
 obtain ⟨r,hr,_⟩:=vW.1 h1
 exact xD.2 ⟨fun n hn=>g1 n (h3.subset hn),JU g2 h3.length_le (by rw [hr];simp)⟩
theorem XI {m t o:List Ent} {p q:qP} : ∀ {k n:Nat},xX m t o p k n = some q → ∃ j,n ≤ j ∧ j < n + k ∧ vC p (j:Int) = 0 ∧ q = yI p (j:Int) ∧ qW m q = none ∧ qW t q = none ∧ qW o q = none
 | 0,n,h=>by cases h
 | k + 1,n,h=>by
   unfold xX at h
   split at h
   ·rename_i he
    split at h
    ·rename_i hf
     injection h with h
     subst h
     unfold JQ at hf
     simp only [Bool.and_eq_true,Bool.not_eq_true',Q7] at hf
     exact ⟨n,by omega,by omega,he,rfl,by simpa using hf.1.1,by simpa using hf.1.2,by simpa using hf.2⟩
    ·obtain ⟨j,h1,h2,h3⟩:=XI h
     exact ⟨j,by omega,by omega,h3⟩
   ·cases h
theorem We {m t:List Ent} {s s' : MS} {p x:qP} (hp:qH p = 0) (h:zg m t s p x = some s') : ∃ q,s' = ⟨jR s.out ⟨q,false,x,1⟩,s.cps ++ [⟨p,q⟩]⟩ ∧ qH q = 0 ∧ qJ q = qJ p ∧ qW m q = none ∧ qW t q = none ∧ qW s.out q = none:=by
 unfold zg at h
 cases hq:xX m t s.out p 99 1 with
 | none=>rw [hq] at h;cases h
 | some q =>
   rw [hq] at h
   injection h with h
   obtain ⟨j,h1,h2,h3,h4,h5,h6,h7⟩:=XI hq
   have he:vg p (j:Int) = 0:=by
    unfold vg
    rw [if_pos hp,if_neg (by omega),h3]
   have hb:=qaC he
   exact ⟨q,h.symm,by rw [h4];exact hb.1,by rw [h4];exact hb.2,h5,h6,h7⟩
structure MInv (o:List Ent):Prop where
 rise:qU jf o = true
 ent : ∀ x,x ∈ o → y9 x = 0
def vu (o:List Ent) (a:qP):Prop:=(stT o a).kind = 1
theorem kF {t:List Ent} {x y:Ent} (hs:qU jf t = true) (h:y ∈ jR t x):y = x ∨ y ∈ t:=((Vh hs y).1 h).imp id And.left
theorem qbP {o:List Ent} {x:Ent} (h:MInv o) (hx:y9 x = 0):MInv (jR o x) :=
 ⟨yW h.rise,fun y hy=>by rcases kF h.rise hy with rfl|h1;exact hx;exact h.ent y h1⟩
theorem qbq {o:List Ent} {x:Ent} (hs:qU jf o = true) (p:qP):stT (jR o x) p = if p = x.path then xS x else stT o p:=by
 unfold stT
 rw [kb hs]
 by_cases h:p = x.path
 ·rw [if_pos h,if_pos h]
 ·rw [if_neg h,if_neg h]
theorem ZH {x:Ent} (h:y9 x = 0):x.fold = true → x.text = []:=fun hf=>by
 have:=(jz h).2.1
 exact Classical.byContradiction fun e=>this ⟨hf,e⟩
theorem qb1 {o:List Ent} (h:MInv o) {p s:qP} (hp:stT o p = ⟨2,s⟩):s.length ≤ 300:=by
 obtain ⟨x,h1,h2,h3⟩:=qgz.1 hp
 rw [← h3]
 exact (jz (h.ent x (jN h1).1)).2.2.1
theorem KQ {x:Thg} (h:x.kind = 2):x = ⟨2,x.text⟩:=qfI h rfl
theorem Zy {m t:List Ent} {s s' : MS} {p x:qP} (hi:MInv s.out) (hp:qH p = 0) (hx:x.length ≤ 300) (h:zg m t s p x = some s') :
  MInv s'.out ∧ (∀ a,vu s.out a → vu s'.out a) ∧ ∀ y,y ∈ s'.out → y ∈ s.out ∨ jE y.path = jE p:=by
 obtain ⟨q,rfl,h1,h2,_,_,h5⟩:=We hp h
 refine ⟨qbP hi (J0 h1 (fun e=>by cases e) hx (by decide)),fun a ha=>?_,fun y hy=>?_⟩
 ·unfold vu at *
  show (stT (jR s.out _) a).kind = 1
  rw [qbq hi.rise]
  split
  ·rename_i e
   simp only at e
   subst e
   rw [KL.2 h5] at ha;cases ha
  ·exact ha
 ·rcases kF hi.rise hy with rfl|h3
  ·exact .inr (qcR h1 hp h2)
  ·exact .inl h3
theorem YB {m t:List Ent} : ∀ {l:List (qP × qP)} {s s' : MS},MInv s.out → (∀ g,g ∈ l → qH g.1 = 0 ∧ g.2.length ≤ 300) → Vd m t l s = some s' → MInv s'.out
 | [],s,s',hi,_,h=>by
   injection h with h
   exact h ▸ hi
 | g :: l,s,s',hi,hg,h=>by
   unfold Vd at h
   cases hq:zg m t s g.1 g.2 with
   | none=>rw [hq] at h;cases h
   | some s1 =>
     rw [hq] at h
     have h1:=hg g (by simp)
     exact YB (Zy hi h1.1 h1.2 hq).1 (fun g' hg'=>hg g' (by simp [hg'])) h
theorem qeo {m t:List Ent} {s s' : MS} {q:qP} (hi:MInv s.out) (hq:qH q = 0) (ha : ∀ a,a ∈ jE q → vu s.out a) (h:YQ m t s q = some s') :
  MInv s'.out ∧ vu s'.out q ∧ (∀ a,vu s.out a → vu s'.out a) ∧ ∀ y,y ∈ s'.out → y ∈ s.out ∨ ∀ a,a ∈ jE y.path → vu s'.out a:=by
 unfold YQ at h
 have hi1:MInv (jR s.out ⟨q,true,[],1⟩):=qbP hi (J0 hq (fun _=>rfl) (by simp) (by decide))
 have hf1 : ∀ a,vu s.out a → vu (jR s.out ⟨q,true,[],1⟩) a:=fun a h1=>by
  unfold vu at *
  rw [qbq hi.rise]
  split
  ·rfl
  ·exact h1
 have hq1:vu (jR s.out ⟨q,true,[],1⟩) q:=by
  unfold vu
  rw [qbq hi.rise,if_pos rfl];rfl
 split at h
 ·rename_i h1
  injection h with h
  subst h
  exact ⟨hi,h1,fun _ h=>h,fun y hy => .inl hy⟩
 ·split at h
  ·rename_i h2
   have hx:=qb1 hi (KQ h2)
   obtain ⟨g1,g2,g3⟩:=Zy (s:=⟨jR s.out ⟨q,true,[],1⟩,s.cps⟩) hi1 hq hx h
   refine ⟨g1,g2 q hq1,fun a h1=>g2 a (hf1 a h1),fun y hy=>?_⟩
   rcases g3 y hy with h3|h3
   ·rcases kF hi.rise h3 with rfl|h4
    ·exact .inr fun a h5=>g2 a (hf1 a (ha a h5))
    ·exact .inl h4
   ·exact .inr fun a h5=>g2 a (hf1 a (ha a (h3 ▸ h5)))
  ·injection h with h
   subst h
   refine ⟨hi1,hq1,hf1,fun y hy=>?_⟩
   rcases kF hi.rise hy with rfl|h4
   ·exact .inr fun a h5=>hf1 a (ha a h5)
   ·exact .inl h4
def Y5 (o:List Ent) (qs:List qP):Prop := ∀ A q B,qs = A ++ q :: B → ∀ a,a ∈ jE q → a ∈ A ∨ vu o a
theorem Wh (o:List Ent) (p:qP):Y5 o (jE p):=fun A q B h a ha=>by
 have hk:A.length < (jE p).length:=by rw [h];simp
 have hq:(jE p)[A.length] = q:=by simp [h]
 have h2:=WW hk
 rw [hq] at h2
 rw [h2,h,List.take_left] at ha
 exact .inl ha
theorem qaI {o:List Ent} {X Y:List qP} (hx:Y5 o X) (hy:Y5 o Y):Y5 o (X ++ Y):=fun A q B h a ha=>by
 rcases List.append_eq_append_iff.1 h with ⟨xs,h1,h2⟩|⟨bs,h1,h2⟩
 ·rcases hy xs q B h2 a ha with h3|h3
  ·exact .inl (by rw [h1];exact List.mem_append_right _ h3)
  ·exact .inr h3
 ·cases bs with
  | nil =>
    rw [List.nil_append] at h2
    rcases hy [] q B h2.symm a ha with h3|h3
    ·cases h3
    ·exact .inr h3
  | cons b bs =>
    rw [List.cons_append] at h2
    injection h2 with h2 h3
    subst h2
    exact hx A q bs h1 a ha
theorem XL (o:List Ent) : ∀ L:List qP,Y5 o (L.flatMap jE)
 | []=>fun A q B h=>by simp at h
 | p :: L=>by rw [List.flatMap_cons];exact qaI (Wh o p) (XL o L)
theorem ZS {m t:List Ent} : ∀ {qs:List qP} {s s' : MS},MInv s.out → Y5 s.out qs → (∀ q,q ∈ qs → qH q = 0) → (∀ x,x ∈ s.out → ∀ a,a ∈ jE x.path → vu s.out a ∨ a ∈ qs) → kn m t qs s = some s' →
  MInv s'.out ∧ ∀ x,x ∈ s'.out → ∀ a,a ∈ jE x.path → vu s'.out a
 | [],s,s',hi,_,_,ha,h=>by
   injection h with h
   subst h
   exact ⟨hi,fun x hx a h1=>(ha x hx a h1).resolve_right (by simp)⟩
 | q :: qs,s,s',hi,hc,hq,ha,h=>by
   unfold kn at h
   cases h1:YQ m t s q with
   | none=>rw [h1] at h;cases h
   | some s1 =>
     rw [h1] at h
     obtain ⟨g1,g2,g3,g4⟩:=qeo hi (hq q (by simp)) (fun a h2=>(hc [] q qs rfl a h2).resolve_left (by simp)) h1
     refine ZS g1 (fun A r B e a h2=>?_) (fun r hr=>hq r (by simp [hr])) (fun x hx a h2=>?_) h
     ·rcases hc (q :: A) r B (by rw [e];rfl) a h2 with h3|h3
      ·rcases List.mem_cons.1 h3 with rfl|h3
       ·exact .inr g2
       ·exact .inl h3
      ·exact .inr (g3 a h3)
     ·rcases g4 x hx with h3|h3
      ·rcases ha x h3 a h2 with h4|h4
       ·exact .inl (g3 a h4)
       ·rcases List.mem_cons.1 h4 with rfl|h4
        ·exact .inl g2
        ·exact .inr h4
      ·exact .inl (h3 a h2)
theorem JF (b m t:List Ent) : ∀ {P:List qP} {o:List Ent},qU jf o = true →
  qU jf (P.foldl (fun o p=>wy o p (x3 b m t p).1) o) = true ∧
  ∀ p,qW (P.foldl (fun o p=>wy o p (x3 b m t p).1) o) p = if p ∈ P ∧ ¬ (x3 b m t p).1.kind = 0 then some (QW p (x3 b m t p).1) else qW o p
 | [],o,hs=>⟨hs,fun p=>by simp⟩
 | q :: P,o,hs=>by
   have hs1:qU jf (wy o q (x3 b m t q).1) = true:=by
    unfold wy
    split
    ·exact hs
    ·exact yW hs
   obtain ⟨h1,h2⟩:=JF b m t (P:=P) hs1
   refine ⟨h1,fun p=>?_⟩
   rw [List.foldl_cons,h2]
   by_cases hk:(x3 b m t p).1.kind = 0
   ·rw [if_neg (fun h=>h.2 hk),if_neg (fun h=>h.2 hk)]
    unfold wy
    split
    ·rfl
    ·rename_i hq
     rw [kb hs,if_neg]
     rintro e
     simp only [QW] at e
     subst e
     exact hq hk
   ·by_cases hp:p ∈ P
    ·rw [if_pos ⟨hp,hk⟩,if_pos ⟨by simp [hp],hk⟩]
    ·rw [if_neg (fun h=>hp h.1)]
     by_cases e:p = q
     ·subst e
      rw [if_pos ⟨by simp,hk⟩]
      unfold wy
      rw [if_neg hk,kb hs];exact if_pos rfl
     ·rw [if_neg (fun h=>by rcases List.mem_cons.1 h.1 with h1|h1;exact e h1;exact hp h1)]
      unfold wy
      split
      ·rfl
      ·rw [kb hs,if_neg]
       exact e
theorem KK {u:List Ent} (hu:MInv u) (p:qP):(stT u p).text.length ≤ 300:=by
 rcases ku u p with ⟨_,h⟩|⟨_,h⟩|h
 ·rw [h];simp
 ·rw [h];simp
 ·exact qb1 hu (KQ h)
theorem qbY {b x y:Thg} (hx:x.text.length ≤ 300) (hy:y.text.length ≤ 300):(JL b x y).1.text.length ≤ 300 ∧ (JL b x y).2.text.length ≤ 300:=by
 have hn:noT.text.length ≤ 300:=by decide
 unfold JL
 (repeat' split)<;>exact ⟨by assumption,by assumption⟩
theorem JI {t:List Ent} (h:Right t):MInv t:=⟨h.rise,h.ent⟩
theorem Qg {b m t:List Ent} (hb:Right b) (hm:Right m) (ht:Right t) {p:qP} (h:p ∈ ze b m t):qH p = 0:=by
 have g : ∀ u:List Ent,Right u → ¬ qW u p = none → qH p = 0:=fun u hu h1=>by
  cases h2:qW u p with
  | none=>exact absurd h2 h1
  | some x =>
    obtain ⟨h3,h4⟩:=jN h2
    have:=(jz (hu.ent x h3)).1
    rw [h4] at this;exact this
 rcases qeg.1 h with h1|h1|h1
 ·exact g b hb h1
 ·exact g m hm h1
 ·exact g t ht h1
theorem Vl {b m t:List Ent} (hb:Right b) (hm:Right m) (ht:Right t):MInv (xK b m t (ze b m t)):=by
 obtain ⟨h1,h2⟩:=JF b m t (P:=ze b m t) (o:=[]) rfl
 refine ⟨h1,fun x hx=>?_⟩
 have h3:=vw h1 hx
 rw [h2] at h3
 split at h3
 ·rename_i h4
  injection h3 with h3
  have hg:=(WO (b:=stT b x.path) (ku m x.path) (ku t x.path)).1
  have hl:=(qbY (b:=stT b x.path) (KK (JI hm) x.path) (KK (JI ht) x.path)).1
  have hpe:=Qg hb hm ht h4.1
  rw [← h3]
  refine J0 hpe (fun e=>?_) hl (by decide)
  have e:(x3 b m t x.path).1.kind = 1:=by simpa using e
  rcases hg with ⟨k1,k2⟩|⟨k1,k2⟩|k1
  ·exact k2
  ·exact k2
  ·exact absurd (k1.symm.trans e) (by decide)
 ·cases h3
theorem Qq {b m t:List Ent} (hb:Right b) (hm:Right m) (ht:Right t) : ∀ g,g ∈ yK b m t (ze b m t) → qH g.1 = 0 ∧ g.2.length ≤ 300:=by
 intro g hg
 obtain ⟨p,h1,h2⟩:=List.mem_filterMap.1 hg
 split at h2
 ·injection h2 with h2
  subst h2
  exact ⟨Qg hb hm ht h1,(qbY (b:=stT b p) (KK (JI hm) p) (KK (JI ht) p)).2⟩
 ·cases h2
theorem Qy {b m t:List Ent} {s:MS} (hb:Right b) (hm:Right m) (ht:Right t) (h:vG b m t = some s):MInv s.out ∧ ∀ x,x ∈ s.out → ∀ a,a ∈ jE x.path → vu s.out a:=by
 unfold vG at h
 cases h1:Vd m t (yK b m t (ze b m t)) ⟨xK b m t (ze b m t),[]⟩ with
 | none=>rw [h1] at h;cases h
 | some s1 =>
   rw [h1] at h
   have hi:=YB (s:=⟨xK b m t (ze b m t),[]⟩) (Vl hb hm ht) (Qq hb hm ht) h1
   refine ZS hi (XL _ _) (fun q hq=>?_) (fun x hx a ha=>?_) h
   ·obtain ⟨p,h2,h3⟩:=List.mem_flatMap.1 hq
    obtain ⟨x,h4,rfl⟩:=List.mem_map.1 h2
    exact QD (jz (hi.ent x h4)).1 h3
   ·exact .inr (List.mem_flatMap.2 ⟨x.path,List.mem_map.2 ⟨x,hx,rfl⟩,ha⟩)
theorem WI {f:Ent → Ent} (hf : ∀ x,(f x).path = x.path) (t:List Ent) (p:qP):qW (t.map f) p = (qW t p).map f:=by
 unfold qW
 rw [List.find?_map]
 congr 2
 funext x
 simp [atP,hf]
theorem qbd {f:Ent → Ent} (hf : ∀ x,(f x).path = x.path) {t:List Ent} (h:qU jf t = true):qU jf (t.map f) = true:=by
 rw [jJ] at *
 rw [List.pairwise_map]
 exact h.imp fun {a b} hab=>by rw [hf,hf];exact hab
theorem qgB {m t:List Ent} (hm:Right m) (ht:Right t) (e:Ent):vj (kK m t e) = true:=by
 have g : ∀ u:List Ent,Right u → ∀ v,zV u e = some v → vj v = true:=fun u hu v h=>by
  unfold zV at h
  split at h
  ·cases h
  ·rename_i x hx
   split at h
   ·injection h with h
    rw [← h]
    exact (jz (hu.ent x (jN hx).1)).2.2.2
   ·cases h
 unfold kK
 cases h1:zV t e with
 | some v=>exact g t ht v h1
 | none =>
   cases h2:zV m e with
   | some v=>exact g m hm v h2
   | none=>rfl
theorem Kt {b m t:List Ent} (hb:Right b) (hm:Right m) (ht:Right t) (h:(zh b m t).2.2 = 0):Right (zh b m t).1:=by
 unfold zh at *
 cases h1:vG b m t with
 | none=>rw [h1] at h;exact absurd (show (2:Int) = 0 from h) (by decide)
 | some s =>
   rw [h1] at h
   simp only at h ⊢
   split at h
   ·exact absurd (show (2:Int) = 0 from h) (by decide)
   ·rename_i h60
    rw [if_neg h60]
    show Right (s.out.map (vl m t))
    obtain ⟨hi,ha⟩:=Qy hb hm ht h1
    refine wR (qbd (f:=vl m t) (fun _=>rfl) hi.rise) (by rw [List.length_map];omega) fun p x hx=>?_
    rw [WI (f:=vl m t) (fun _=>rfl)] at hx
    obtain ⟨y,hy,rfl⟩:=Option.map_eq_some_iff.1 hx
    obtain ⟨hy1,hy2⟩:=jN hy
    have he:=hi.ent y hy1
    obtain ⟨e1,e2,e3,e4⟩:=jz he
    refine ⟨J0 (p:=y.path) e1 (ZH he) e3 (qgB hm ht y),?_⟩
    rw [← hy2]
    by_cases hp:qJ y.path = []
    ·exact .inl hp
    ·right
     have hf:=ha y hy1 (qJ y.path) (VV.2 ⟨J5 e1 hp,Kz e1⟩)
     obtain ⟨z,hz1,hz2⟩:=qeC.1 hf
     exact ⟨vl m t z,by rw [WI (f:=vl m t) (fun _=>rfl),hz1];rfl,hz2⟩
def qhf (e:Ent):Ent := { e with ver:=1 }
theorem qeE {x:Ent} (h:y9 x = 0):QW x.path (xS x) = qhf x:=by
 obtain ⟨p,f,s,v⟩:=x
 cases f with
 | true =>
   have:=ZH h rfl
   simp at this
   subst this
   rfl
 | false=>rfl
def Xk (e:Ent):qP × Bool × qP:=(e.path,e.fold,e.text)
theorem XK {m t:List Ent} {s s' : MS} {p x:qP} (h:zg m t s p x = some s'):s'.cps.length = s.cps.length + 1:=by
 unfold zg at h
 split at h
 ·cases h
 ·injection h with h
  rw [← h];simp
theorem Wz {m t:List Ent} : ∀ {l:List (qP × qP)} {s s' : MS},Vd m t l s = some s' → s'.cps.length = s.cps.length + l.length
 | [],s,s',h=>by injection h with h;rw [h];rfl
 | g :: l,s,s',h=>by
   unfold Vd at h
   cases h1:zg m t s g.1 g.2 with
   | none=>rw [h1] at h;cases h
   | some s1 =>
     rw [h1] at h
     have:=Wz h
     have:=XK h1
     simp only [List.length_cons]
     omega
end Go.Proofs.YtamejbkifpjhiaaGreatDoor
set_option linter.unusedSimpArgs false
set_option linter.unnecessarySimpa false
set_option linter.unusedVariables false
namespace Go.Proofs.YtamejbkifpjhiaaGreatDoor
open Go.Op
structure KInv (m t:List Ent) (s:MS):Prop where
 inv:MInv s.out
 cp : ∀ c,c ∈ s.cps → qW m c.at_ = none ∧ qW t c.at_ = none
end Go.Proofs.YtamejbkifpjhiaaGreatDoor
set_option linter.unusedSimpArgs false
set_option linter.unnecessarySimpa false
set_option maxHeartbeats 1000000
namespace Go.Proofs.YtamejbkifpjhiaaGreatDoor
open Go.Ab Go.RowKit
set_option maxRecDepth 10000
attribute [local irreducible] Awp yH jH jw Red ja Go.Ab.Fin qZ Rz vn jr jp ResOk j3 jC yC jA
def decX (k i:Nat):Nat:=if i = 0 then k else k / 10
def qdN (k i:Nat):qP:=if i = 0 then [] else [UInt8.ofNat (48 + ((k % 10:Nat):Int)).toNat]
theorem KR (k:Nat):(48 + (k:Int)).toNat = 48 + k:=by omega
theorem qb8 (k:Nat) (hk:k < 100):xH C.P 103 [.v (.int .i64 (k:Int))] (.v (str (ko (k:Int)))):=by
 refine qc Tryz.func103 rfl _ Tryz.ntmps103 (Nat.le_of_ble_eq_true rfl) _ Tryz.results103 0 rfl rfl ?_
 repeat' (first|refine qn ?_|fail|((first|refine xsC ?_ ?_);all_goals (intro hc;have hp:=hc;try simp at hp;try (exfalso;omega)))|refine qX ?_ ?_)
 all_goals try (exfalso;omega)
 (refine Awp.red (qI (ts:=[(0,.v (.int .i64 ((decX k 0:Nat):Int))),(3,.v (str (qdN k 0)))]) ?_) ?_;((repeat (first|exact qg|refine qo ?_|refine qY ?_ ?_))))
 refine qV (fun n σ => ∃ i:Nat,i ≤ [(),()].length ∧ n = [(),()].length - i ∧ (i = 0 ∨ (i = 1 ∧ 10 ≤ k)) ∧ σ = ⟨[(0,.v (.int .i64 ((decX k i:Nat):Int))),(3,.v (str (qdN k i)))],[],C.nh⟩) [(),()].length ⟨0,Nat.zero_le _,rfl,(.inl rfl),rfl⟩ ?_
 rintro n σ ⟨i,hi,rfl,hsofar,rfl⟩
 rcases hsofar with rfl|⟨rfl,hk10⟩
 ·rw [show decX k 0 = k from rfl,show qdN k 0 = [] from rfl]
  repeat' (first|refine qn ?_|(first|(apply qi;apply qd0 (b:=10);rfl;rfl;decide;exact nle rfl)|(apply qi;apply qdZ (b:=10);rfl;rfl;decide;omega;exact nle rfl)|(apply qi;apply X6;rfl;rfl;rfl;rfl;rfl;exact IntWalk.u8_in _ (by omega);exact nle rfl)|(refine jL ?_)|(apply qi;apply Wm;rfl;rfl;rfl;rfl;rfl;rfl;rfl;exact nle rfl))|((first|refine xsC ?_ ?_);all_goals (intro hc;have hp:=hc;try simp at hp;try (exfalso;omega)))|refine qX ?_ ?_)
  all_goals try (exfalso;omega)
  ·have h10:k % 10 = k:=Nat.mod_eq_of_lt (by omega)
   have hd:ko (k:Int) = [UInt8.ofNat (48 + k)]:=by unfold ko;rw [if_pos (by omega)];simp
   (refine xa (rs:=[.tmp 2]) ?_;(repeat' (first|exact q5|apply qA|exact q4 rfl|exact yE|exact zz|apply jX|apply y5|apply jO|apply y3|apply yz|apply y4|refine zr ?_|apply x8));all_goals (rw [hd,h10,KR];rfl))
  ·have hkk:10 ≤ k:=by omega
   refine ⟨1,_,by decide,qI (ts:=[(0,.v (.int .i64 ((decX k 1:Nat):Int))),(3,.v (str (qdN k 1)))]) ?_,1,by decide,rfl,.inr ⟨rfl,hkk⟩,rfl⟩
   ((repeat (first|exact qg|refine qo ?_|refine qY ?_ ?_));all_goals (first|rfl|(rw [List.append_nil];rfl)))
 ·rw [show decX k 1 = k / 10 from rfl,show qdN k 1 = [UInt8.ofNat (48 + ((k % 10:Nat):Int)).toNat] from rfl]
  repeat' (first|refine qn ?_|(first|(apply qi;apply qd0 (b:=10);rfl;rfl;decide;exact nle rfl)|(apply qi;apply qdZ (b:=10);rfl;rfl;decide;omega;exact nle rfl)|(apply qi;apply X6;rfl;rfl;rfl;rfl;rfl;exact IntWalk.u8_in _ (by omega);exact nle rfl)|(refine jL ?_)|(apply qi;apply Wm;rfl;rfl;rfl;rfl;rfl;rfl;rfl;exact nle rfl))|((first|refine xsC ?_ ?_);all_goals (intro hc;have hp:=hc;try simp at hp;try (exfalso;omega)))|refine qX ?_ ?_)
  all_goals try (exfalso;omega)
  have h10:k / 10 % 10 = k / 10:=Nat.mod_eq_of_lt (by omega)
  have hd:ko (k:Int) = [UInt8.ofNat (48 + k / 10),UInt8.ofNat (48 + k % 10)]:=by unfold ko;rw [if_neg (by omega)];simp
  (refine xa (rs:=[.tmp 2]) ?_;(repeat' (first|exact q5|apply qA|exact q4 rfl|exact yE|exact zz|apply jX|apply y5|apply jO|apply y3|apply yz|apply y4|refine zr ?_|apply x8));all_goals (rw [hd,h10,KR,KR];rfl))
theorem Qu (c x:UInt8) : ∀ (s:qP),yn c (s ++ [x]) = if x = c then (s.length:Int) else yn c s
 | []=>by
   by_cases h:x = c<;>simp [yn,h]
 | y :: s=>by
   have ih:=Qu c x s
   simp only [List.cons_append,yn,ih]
   by_cases h:x = c
   ·simp only [h,if_true]
    rw [if_pos (by omega)];simp
   ·simp only [h,if_false]
def atN (s:qP) (i:Nat):Nat:=if 0 < yn 46 (s.take i) then (yn 46 (s.take i)).toNat else s.length
theorem qe0 (s:qP):atN s 1 = s.length:=by
 unfold atN
 have:(s.take 1).length ≤ 1:=by rw [List.length_take];omega
 have:=wn 46 (s.take 1)
 rw [if_neg (by omega)]
theorem qeZ {s:qP} {i:Nat} (h:i < s.length) (h0:0 < i) (hc:s[i] = 46):atN s (i + 1) = i:=by
 unfold atN
 rw [List.take_succ_eq_append_getElem h,Qu,if_pos hc,List.length_take,Nat.min_eq_left (by omega)]
 rw [if_pos (by omega)];omega
theorem qck {s:qP} {i:Nat} (h:i < s.length) (hc:¬ s[i] = 46):atN s (i + 1) = atN s i:=by
 unfold atN
 rw [List.take_succ_eq_append_getElem h,Qu,if_neg hc]
theorem qge (s:qP) (i:Nat):atN s i ≤ s.length:=by
 unfold atN
 split
 ·have h1:=wn 46 (s.take i)
  have h2:(s.take i).length ≤ s.length:=by rw [List.length_take];omega
  omega
 ·exact Nat.le_refl _
theorem qeY {s:qP} {i:Nat} (h:s.length ≤ i):s.take (atN s i) = vc s ∧ (s.take s.length).drop (atN s i) = zk s:=by
 unfold atN vc zk
 rw [List.take_of_length_le h,List.take_length]
 by_cases h0:0 < yn 46 s
 ·simp [h0]
 ·simp [h0]
end Go.Proofs.YtamejbkifpjhiaaGreatDoor
