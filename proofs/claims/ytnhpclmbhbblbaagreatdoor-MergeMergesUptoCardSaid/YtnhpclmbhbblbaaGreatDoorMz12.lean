import Derived.Test.YtnhpclmbhbblbaaGreatDoorMz11
import Derived.Test.YtnhpclmbhbblbaaGreatDoorMz2
set_option linter.unusedSimpArgs false
set_option linter.unnecessarySimpa false
set_option linter.unusedVariables false
set_option maxHeartbeats 1000000
namespace Go.Proofs.YtnhpclmbhbblbaaGreatDoor
open Go.Ab Go.RowKit
set_option maxRecDepth 10000
attribute [local irreducible] Awp j4 jw js Red qU Go.Ab.Fin q6 Rz x6 jp jo ResOk jJ ju yb jx
def WV (c:Chg):qJ:=if c.kind = 3 then c.to else c.path
def qb3 (c:Chg) (x:Ent):Bool:=decide (c.base < x.ver) && X5 x.path c.path
def qbU (t:List Ent) (p:qJ):Bool:=match t.find? (atP p) with|some x=>x.fold|none=>false
def qbr (t:List Ent) (c:Chg):Int:=if c.kind = 1 then (if yJ t c.path = true then 6 else 0) else if c.kind = 2 then (if qbU t c.path = true then 4 else 0) else (if yJ t c.path = true then 0 else 5)
def qbt (t:List Ent) (c:Chg):Int:=if c.kind = 3 then (if X5 c.to c.path = true then 3 else if yJ t c.to = true then 6 else 0) else 0
def WH (t:List Ent) (c:Chg):Int:=if ¬ c.base = -1 ∧ t.any (qb3 c) = true then 8 else 0
def Wo (t:List Ent) (c:Chg):Int :=
 if ¬ xI t (qO (WV c)) = 0 then xI t (qO (WV c))
 else if ¬ qbr t c = 0 then qbr t c
 else if ¬ qbt t c = 0 then qbt t c else WH t c
end Go.Proofs.YtnhpclmbhbblbaaGreatDoor
set_option linter.unusedSimpArgs false
set_option linter.unnecessarySimpa false
set_option linter.unusedVariables false
set_option maxHeartbeats 1000000
namespace Go.Proofs.YtnhpclmbhbblbaaGreatDoor
open Go.Ab Go.RowKit
set_option maxRecDepth 10000
attribute [local irreducible] Awp j4 jw js Red qU Go.Ab.Fin q6 Rz x6 jp jo ResOk jJ ju yb jx
def jX (t:List Ent) (x:Ent):List Ent:=if yJ t x.path = true then t.take (x1 t x.path) ++ ([x] ++ t.drop (x1 t x.path + 1)) else t.take (x1 t x.path) ++ ([x] ++ t.drop (x1 t x.path))
end Go.Proofs.YtnhpclmbhbblbaaGreatDoor
set_option linter.unusedSimpArgs false
set_option linter.unnecessarySimpa false
set_option linter.unusedVariables false
set_option maxHeartbeats 1000000
namespace Go.Proofs.YtnhpclmbhbblbaaGreatDoor
open Go.Ab Go.RowKit
set_option maxRecDepth 10000
attribute [local irreducible] Awp j4 jw js Red qU Go.Ab.Fin q6 Rz x6 jp jo ResOk jJ ju yb jx
def WL (p:Ent → Bool) (t:List Ent):List Ent:=t.filter fun x => !p x
def inP (p:qJ) (x:Ent):Bool:=X5 x.path p
end Go.Proofs.YtnhpclmbhbblbaaGreatDoor
set_option linter.unusedSimpArgs false
set_option linter.unnecessarySimpa false
set_option linter.unusedVariables false
set_option maxHeartbeats 1000000
namespace Go.Proofs.YtnhpclmbhbblbaaGreatDoor
open Go.Ab Go.RowKit
set_option maxRecDepth 10000
attribute [local irreducible] Awp j4 jw js Red qU Go.Ab.Fin q6 Rz x6 jp jo ResOk jJ ju yb jx
def WP (c:Chg) (v:Int) (x:Ent):Ent:=⟨c.to ++ x.path.drop c.path.length,x.fold,x.text,if x.path = c.path then v else x.ver⟩
def qbz (t:List Ent) (c:Chg) (v:Int):List Ent:=(t.filter (inP c.path)).map (WP c v)
def Yo (t:List Ent) (c:Chg) (v:Int):List Ent :=
 if c.kind = 1 then jX t ⟨c.path,true,[],v⟩
 else if c.kind = 2 then jX t ⟨c.path,false,c.text,v⟩
 else if c.kind = 4 then WL (inP c.path) t
 else (qbz t c v).foldl jX (WL (inP c.path) t)
def JB (t:List Ent) (c:Chg):Bool:=decide (c.kind = 3) && (t.filter (inP c.path)).any fun x=>jT (c.to ++ x.path.drop c.path.length)
def qaf (t:List Ent) (c:Chg) (v:Int):Int:=if JB t c = true then 2 else if 60 < (Yo t c v).length then 2 else 0
end Go.Proofs.YtnhpclmbhbblbaaGreatDoor
set_option linter.unusedSimpArgs false
set_option linter.unnecessarySimpa false
set_option linter.unusedVariables false
namespace Go.Proofs.YtnhpclmbhbblbaaGreatDoor
open Go.Op
theorem ZU {a b:qJ} (h:bytesLess a b = true):bytesLess b a = false:=by
 cases e:bytesLess b a
 ·rfl
 ·have:=vX h e
  rw [vG] at this;cases this
theorem Qh {a b:qJ} (h:bytesLess a b = true):¬ a = b:=fun e=>by rw [e,vG] at h;cases h
theorem qbJ {a b:qJ} (h1:bytesLess a b = false) (h2:¬ a = b):bytesLess b a = true:=by
 rcases zG a b with ⟨h,_,_⟩|⟨h,_,_⟩|⟨h,_,_⟩
 ·rw [h] at h1;cases h1
 ·exact absurd h h2
 ·exact h
theorem Yi (p:qJ) : ∀ {t:List Ent},t.Pairwise (fun a b=>bytesLess a.path b.path = true) → ∃ A M Z,t = A ++ (M ++ Z) ∧ x1 t p = A.length ∧ (∀ a,a ∈ A → bytesLess a.path p = true) ∧ (∀ z,z ∈ Z → bytesLess p z.path = true) ∧
  ((yJ t p = true ∧ ∃ x,M = [x] ∧ x.path = p) ∨ (yJ t p = false ∧ M = []))
 | [],_=>⟨[],[],[],rfl,rfl,nofun,nofun,.inr ⟨rfl,rfl⟩⟩
 | x :: l,h=>by
   obtain ⟨h1,h2⟩:=List.pairwise_cons.1 h
   by_cases hx:bytesLess x.path p = true
   ·obtain ⟨A,M,Z,rfl,hp,hA,hZ,hM⟩:=Yi p h2
    have hp' : x1 (x :: (A ++ (M ++ Z))) p = A.length + 1:=by
     simp only [x1,List.takeWhile_cons,hx,if_true,List.length_cons] at hp ⊢;omega
    have hh:yJ (x :: (A ++ (M ++ Z))) p = yJ (A ++ (M ++ Z)) p:=by
     simp [yJ,atP,Qh hx]
    refine ⟨x :: A,M,Z,rfl,hp',fun a ha=>?_,hZ,by rw [hh];exact hM⟩
    rcases List.mem_cons.1 ha with rfl|ha
    ·exact hx
    ·exact hA a ha
   ·have hx:bytesLess x.path p = false:=by simpa using hx
    have hp:x1 (x :: l) p = 0:=by simp [x1,List.takeWhile_cons,hx]
    by_cases e:x.path = p
    ·subst e
     exact ⟨[],[x],l,rfl,hp,nofun,fun z hz=>h1 z hz,.inl ⟨by simp [yJ,atP],x,rfl,rfl⟩⟩
    ·have hg:=qbJ hx e
     have hall : ∀ z,z ∈ x :: l → bytesLess p z.path = true:=fun z hz=>by
      rcases List.mem_cons.1 hz with rfl|hz
      ·exact hg
      ·exact vX hg (h1 z hz)
     refine ⟨[],[],x :: l,rfl,hp,nofun,hall,.inr ⟨List.any_eq_false.2 fun z hz=>?_,rfl⟩⟩
     have:=Qh (hall z hz)
     simp only [atP,decide_eq_true_eq]
     exact fun e=>this e.symm
theorem z6 {t A M Z:List Ent} {x:Ent} (h:t = A ++ (M ++ Z)) (hp:x1 t x.path = A.length) (hM:(yJ t x.path = true ∧ ∃ y,M = [y] ∧ y.path = x.path) ∨ (yJ t x.path = false ∧ M = [])):jX t x = A ++ ([x] ++ Z):=by
 unfold jX
 rw [hp]
 have h1:t.take A.length = A:=by rw [h];simp
 rw [h1]
 rcases hM with ⟨hh,y,rfl,_⟩|⟨hh,rfl⟩
 ·simp only [hh,if_true];rw [h];simp
 ·simp only [hh,Bool.false_eq_true,if_false];rw [h];simp
theorem kX (t:List Ent) (x:Ent):(jX t x).length ≤ t.length + 1:=by
 unfold jX;split<;>simp<;>omega
theorem j6 {t:List Ent} {x:Ent} (hs:qY jn t = true):qY jn (jX t x) = true:=by
 have hl:=yP.1 hs
 obtain ⟨A,M,Z,h,hp,hA,hZ,hM⟩:=Yi x.path hl
 rw [z6 h hp hM]
 refine yP.2 ?_
 have hsub:(A ++ Z).Sublist t:=by
  rw [h];exact List.Sublist.append_left (List.sublist_append_right _ _) _
 obtain ⟨pA,pZ,pAZ⟩:=List.pairwise_append.1 (hl.sublist hsub)
 refine List.pairwise_append.2 ⟨pA,List.pairwise_cons.2 ⟨fun z hz=>hZ z hz,pZ⟩,fun a ha b hb=>?_⟩
 rcases List.mem_cons.1 hb with rfl|hb
 ·exact hA a ha
 ·exact pAZ a ha b hb
theorem Qj {p:Ent → Bool} {t:List Ent} (hs:qY jn t = true):qY jn (WL p t) = true:=yP.2 ((yP.1 hs).sublist List.filter_sublist)
theorem wA : ∀ {l t:List Ent},qY jn t = true → qY jn (l.foldl jX t) = true
 | [],_,h=>h
 | x :: l,t,h=>wA (l:=l) (j6 h)
theorem jD {p:qJ} (h:qE p = 0):p.length ≤ 80:=by
 have:jT p = false:=by
  unfold qE at h
  split at h
  ·split at h
   ·exact absurd h (by decide)
   ·rename_i h2;simpa using h2
  ·exact absurd h (by decide)
 simp [jT] at this;omega
theorem X7 {p f t:qJ} (hp:qE p = 0) (hf:qE f = 0) (ht:qE t = 0) (hi:X5 p f = true):zV p f t = if jT (t ++ p.drop f.length) = true then 2 else 0:=by
 unfold zV
 rw [if_pos (by simp [yz,hp,hf,ht]),if_pos hi]
end Go.Proofs.YtnhpclmbhbblbaaGreatDoor
set_option linter.unusedSimpArgs false
set_option linter.unnecessarySimpa false
set_option linter.unusedVariables false
namespace Go.Proofs.YtnhpclmbhbblbaaGreatDoor
open Go.Op
def y5 (x:Ent) (s:List Ent × Bool) (y:Ent):List Ent × Bool :=
 ((if s.2 = false ∧ bytesLess y.path x.path = false then s.1 ++ [x] else s.1) ++ (if y.path = x.path then [] else [y]),s.2 || !bytesLess y.path x.path)
def x4 (t:List Ent) (x:Ent):List Ent × Bool:=t.foldl (y5 x) ([],false)
def Xy (t:List Ent) (x:Ent):List Ent:=if (x4 t x).2 = true then (x4 t x).1 else (x4 t x).1 ++ [x]
theorem Kv {t:List Ent} {x:Ent} {i:Nat} (h:i < t.length):x4 (t.take (i + 1)) x = y5 x (x4 (t.take i) x) t[i]:=by
 unfold x4
 rw [List.take_succ_eq_append_getElem h,List.foldl_append];rfl
theorem WG (t:List Ent) (x:Ent):(x4 t x).1.length ≤ 2 * t.length:=by
 have : ∀ (l:List Ent) (s:List Ent × Bool),(l.foldl (y5 x) s).1.length ≤ s.1.length + 2 * l.length:=by
  intro l
  induction l with
  | nil=>intro s;simp
  | cons y l ih =>
    intro s
    have h1:=ih (y5 x s y)
    have hq:(y5 x s y).1.length ≤ s.1.length + 2:=by
     unfold y5
     simp only [List.length_append]
     split<;>split<;>simp
    simp only [List.foldl_cons,List.length_cons]
    omega
 have:=this t ([],false)
 simpa [x4] using this
theorem VM {x:Ent} : ∀ {A:List Ent} {s:List Ent},(∀ a,a ∈ A → bytesLess a.path x.path = true) → A.foldl (y5 x) (s,false) = (s ++ A,false)
 | [],s,_=>by simp
 | a :: A,s,h=>by
   have ha:=h a (by simp)
   have hs:y5 x (s,false) a = (s ++ [a],false):=by
    simp [y5,ha,Qh ha]
   rw [List.foldl_cons,hs,VM fun y hy=>h y (by simp [hy])]
   simp
theorem QH {x:Ent} : ∀ {Z:List Ent} {s:List Ent},(∀ z,z ∈ Z → bytesLess x.path z.path = true) → Z.foldl (y5 x) (s,true) = (s ++ Z,true)
 | [],s,_=>by simp
 | z :: Z,s,h=>by
   have hz:=h z (by simp)
   have hs:y5 x (s,true) z = (s ++ [z],true):=by
    have:¬ z.path = x.path:=fun e=>Qh hz e.symm
    simp [y5,this]
   rw [List.foldl_cons,hs,QH fun y hy=>h y (by simp [hy])]
   simp
theorem K5 {t:List Ent} {x:Ent} (hs:qY jn t = true):Xy t x = jX t x:=by
 obtain ⟨A,M,Z,h,hp,hA,hZ,hM⟩:=Yi x.path (yP.1 hs)
 rw [z6 h hp hM]
 have h1:x4 t x = Z.foldl (y5 x) (M.foldl (y5 x) (A,false)):=by
  unfold x4
  rw [h,List.foldl_append,List.foldl_append,VM hA,List.nil_append]
 rcases hM with ⟨_,y,rfl,hy⟩|⟨_,rfl⟩
 ·have h2:y5 x (A,false) y = (A ++ [x],true):=by simp [y5,hy,vG]
  rw [List.foldl_cons,List.foldl_nil,h2,QH hZ] at h1
  simp [Xy,h1]
 ·rw [List.foldl_nil] at h1
  cases Z with
  | nil=>simp at h1;simp [Xy,h1]
  | cons z Z =>
    have hz:=hZ z (by simp)
    have h2:y5 x (A,false) z = (A ++ [x] ++ [z],true):=by
     have h3:¬ z.path = x.path:=fun e=>Qh hz e.symm
     simp [y5,ZU hz,h3]
    rw [List.foldl_cons,h2,QH fun y hy=>hZ y (by simp [hy])] at h1
    simp [Xy,h1]
end Go.Proofs.YtnhpclmbhbblbaaGreatDoor
