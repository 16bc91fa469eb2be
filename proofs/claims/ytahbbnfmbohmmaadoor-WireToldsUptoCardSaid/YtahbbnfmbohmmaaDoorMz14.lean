import Derived.Test.YtahbbnfmbohmmaaDoorMz13
import Derived.RangeFuncNested
import Derived.RangeFuncBound
import Derived.RangeFuncCalls
import Derived.RangeFuncLeaves
import Derived.Shelf.Abstract
import Derived.Shelf.RegionOpen
import Derived.WalkKit
import Derived.OwnWalkIn
import Derived.TacticsInMore
import Derived.LoopNIn
import Derived.LoopIn
import Derived.Test.YtahbbnfmbohmmaaDoorMz5
import Derived.Test.YtahbbnfmbohmmaaDoorMz1
import Derived.Test.YtahbbnfmbohmmaaDoorMz2
set_option linter.unusedSimpArgs false
set_option linter.unnecessarySimpa false
namespace Go.Proofs.YtahbbnfmbohmmaaDoor
open Go.Ab Go.RowKit Go.Shelf
set_option maxRecDepth 10000
attribute [local go_sem] Oper.semAt_some
theorem kept {A B:World} {k:Nat} {o:Obj} (hg:A.grownBy B Option.none) (h:A.heap[k]? = some o):B.heap[k]? = some o:=(hg.block k (Array.getElem?_eq_some_iff.1 h).1 (by simp)).trans h
theorem _root_.Go.World.grownBy.weaken {A B:World} (h:A.grownBy B Option.none) (r:Option Nat):A.grownBy B r:=⟨h.os,h.tape,h.output,h.size,fun k hk _=>h.block k hk (by simp)⟩
theorem KP {W:World} {b T:Nat} {v:Value} (h:W.heap[b]? = some (.cells #[v] T (0,0))) (u:Value):(W.setCell ⟨b,0,none⟩ u).heap[b]? = some (.cells #[u] T (0,0)):=by
 obtain ⟨hlt,hb⟩:=Array.getElem?_eq_some_iff.1 h
 show (W.heap.modify b _)[b]? = _
 rw [Array.getElem?_eq_getElem (by rw [Array.size_modify];exact hlt),Array.getElem_modify_self,hb]
 rfl
theorem Xg (W:World) {b k:Nat} (u:Value) (h:k ≠ b):(W.setCell ⟨b,0,none⟩ u).heap[k]? = W.heap[k]?:=Below.heap_setCell W ⟨b,0,none⟩ u k h
end Go.Proofs.YtahbbnfmbohmmaaDoor
set_option linter.unusedSimpArgs false
set_option linter.unnecessarySimpa false
namespace Go.Proofs.YtahbbnfmbohmmaaDoor
open Go.Ab Go.RowKit Go.Shelf
set_option maxRecDepth 10000
attribute [local go_sem] Oper.semAt_some
abbrev mk (D:Nat):Deferred := { target := .collected D,args := #[] }
structure ChkW (w:World) (e:Int) (Ds:List Nat) (W:World):Prop where
 below:Below w.heap.size w W
 cell:W.heap[w.heap.size]? = some (.cells #[.int .i64 e] 25 (0,0))
 marks : ∀ D,D ∈ Ds → w.heap.size < D ∧ W.heap[D]? = some (.deferred (some []))
theorem ChkW.grown {w:World} {e:Int} {Ds:List Nat} {W W' : World} {row:Option Nat} (h:ChkW w e Ds W) (hg:W.grownBy W' row) (hr : ∀ r,row = some r → w.heap.size < r ∧ r ∉ Ds):ChkW w e Ds W':=by
 have hlt:=(Array.getElem?_eq_some_iff.1 h.cell).1
 refine ⟨h.below.grown hg (by omega) (fun k e=>by have:=(hr k e).1;omega),(hg.block _ hlt (fun e=>by have:=(hr _ e.symm).1;omega)).trans h.cell,fun D hD=>⟨(h.marks D hD).1,?_⟩⟩
 exact (hg.block D (Array.getElem?_eq_some_iff.1 (h.marks D hD).2).1 (fun e=>(hr _ e.symm).2 hD)).trans (h.marks D hD).2
theorem ChkW.lt {w:World} {e:Int} {Ds:List Nat} {W:World} (h:ChkW w e Ds W):w.heap.size < W.heap.size:=(Array.getElem?_eq_some_iff.1 h.cell).1
theorem ChkW.set {w:World} {e:Int} {Ds:List Nat} {W:World} (h:ChkW w e Ds W) (e' : Int):ChkW w e' Ds (W.setCell ⟨w.heap.size,0,Option.none⟩ (.int .i64 e')) :=
 ⟨h.below.setCell (Nat.le_refl _) _,KP h.cell _,fun D hD=>⟨(h.marks D hD).1,(Xg W _ (by have:=(h.marks D hD).1;omega)).trans (h.marks D hD).2⟩⟩
end Go.Proofs.YtahbbnfmbohmmaaDoor
set_option linter.unusedSimpArgs false
set_option linter.unnecessarySimpa false
set_option maxHeartbeats 1000000
namespace Go.Proofs.YtahbbnfmbohmmaaDoor
open Go.Ab Go.RowKit
set_option maxRecDepth 10000
attribute [local irreducible] Awp jU jl qQ Red qD Go.Ab.Fin qt Rz yZ qO qJ ResOk jt qU jN qG
end Go.Proofs.YtahbbnfmbohmmaaDoor
set_option linter.unusedSimpArgs false
set_option linter.unnecessarySimpa false
set_option maxHeartbeats 1000000
namespace Go.Proofs.YtahbbnfmbohmmaaDoor
open Go.Ab Go.RowKit
set_option maxRecDepth 10000
attribute [local irreducible] Awp jU jl qQ Red qD Go.Ab.Fin qt Rz yZ qO qJ ResOk jt qU jN qG
def vL (p f t:qo):Int:=if xI [p,f,t] = 0 then (if ZI p f then (if vQ (t ++ p.drop f.length) then 2 else 0) else 5) else xI [p,f,t]
end Go.Proofs.YtahbbnfmbohmmaaDoor
set_option linter.unusedSimpArgs false
set_option linter.unnecessarySimpa false
set_option maxHeartbeats 1000000
namespace Go.Proofs.YtahbbnfmbohmmaaDoor
open Go.Ab Go.RowKit
set_option maxRecDepth 10000
attribute [local irreducible] Awp jU jl qQ Red qD Go.Ab.Fin qt Rz yZ qO qJ ResOk jt qU jN qG
end Go.Proofs.YtahbbnfmbohmmaaDoor
set_option linter.unusedSimpArgs false
set_option linter.unnecessarySimpa false
set_option maxHeartbeats 1000000
namespace Go.Proofs.YtahbbnfmbohmmaaDoor
open Go.Ab Go.RowKit
set_option maxRecDepth 10000
attribute [local irreducible] Awp jU jl qQ Red qD Go.Ab.Fin qt Rz yZ qO qJ ResOk jt qU jN qG
end Go.Proofs.YtahbbnfmbohmmaaDoor
set_option linter.unusedSimpArgs false
set_option linter.unnecessarySimpa false
set_option maxHeartbeats 1000000
namespace Go.Proofs.YtahbbnfmbohmmaaDoor
open Go.Ab Go.RowKit
set_option maxRecDepth 10000
attribute [local irreducible] Awp jU jl qQ Red qD Go.Ab.Fin qt Rz yZ qO qJ ResOk jt qU jN qG
def qbh (p:qo) (i:Nat):Nat:=i - (qaM (p.take i)).length
def nsL (p:qo) (i:Nat):List qo:=(qW (p.take i)).dropLast
@[simp] theorem qbn (p:qo):nsL p 0 = []:=rfl
@[simp] theorem qaK (p:qo):qbh p 0 = 0:=rfl
@[simp] theorem qap (s:qo):cellsOf (AV.v (str s)) = [AV.v (str s)]:=rfl
end Go.Proofs.YtahbbnfmbohmmaaDoor
set_option linter.unusedSimpArgs false
set_option linter.unnecessarySimpa false
set_option maxHeartbeats 1000000
namespace Go.Proofs.YtahbbnfmbohmmaaDoor
open Go.Ab Go.RowKit
set_option maxRecDepth 10000
attribute [local irreducible] Awp jU jl qQ Red qD Go.Ab.Fin qt Rz yZ qO qJ ResOk jt qU jN qG
end Go.Proofs.YtahbbnfmbohmmaaDoor
set_option linter.unusedSimpArgs false
set_option linter.unnecessarySimpa false
set_option maxHeartbeats 1000000
namespace Go.Proofs.YtahbbnfmbohmmaaDoor
open Go.Ab Go.RowKit
set_option maxRecDepth 10000
attribute [local irreducible] Awp jU jl qQ Red qD Go.Ab.Fin qt Rz yZ qO qJ ResOk jt qU jN qG
end Go.Proofs.YtahbbnfmbohmmaaDoor
set_option linter.unusedSimpArgs false
set_option linter.unnecessarySimpa false
set_option maxHeartbeats 1000000
namespace Go.Proofs.YtahbbnfmbohmmaaDoor
open Go.Ab Go.RowKit
set_option maxRecDepth 10000
attribute [local irreducible] Awp jU jl qQ Red qD Go.Ab.Fin qt Rz yZ qO qJ ResOk jt qU jN qG
end Go.Proofs.YtahbbnfmbohmmaaDoor
set_option linter.unusedSimpArgs false
set_option linter.unnecessarySimpa false
set_option maxHeartbeats 1000000
namespace Go.Proofs.YtahbbnfmbohmmaaDoor
open Go.Ab Go.RowKit
set_option maxRecDepth 10000
attribute [local irreducible] Awp jU jl qQ Red qD Go.Ab.Fin qt Rz yZ qO qJ ResOk jt qU jN qG
end Go.Proofs.YtahbbnfmbohmmaaDoor
set_option linter.unusedSimpArgs false
set_option linter.unnecessarySimpa false
set_option maxHeartbeats 1000000
namespace Go.Proofs.YtahbbnfmbohmmaaDoor
open Go.Ab Go.RowKit
set_option maxRecDepth 10000
attribute [local irreducible] Awp jU jl qQ Red qD Go.Ab.Fin qt Rz yZ qO qJ ResOk jt qU jN qG
end Go.Proofs.YtahbbnfmbohmmaaDoor
set_option linter.unusedSimpArgs false
set_option linter.unnecessarySimpa false
set_option maxHeartbeats 1000000
namespace Go.Proofs.YtahbbnfmbohmmaaDoor
open Go.Ab Go.RowKit
set_option maxRecDepth 10000
attribute [local irreducible] Awp jU jl qQ Red qD Go.Ab.Fin qt Rz yZ qO qJ ResOk jt qU jN qG
end Go.Proofs.YtahbbnfmbohmmaaDoor
set_option linter.unusedSimpArgs false
set_option linter.unnecessarySimpa false
set_option linter.unusedVariables false
set_option maxHeartbeats 1000000
namespace Go.Proofs.YtahbbnfmbohmmaaDoor
open Go.Ab Go.RowKit
set_option maxRecDepth 10000
attribute [local irreducible] Awp jU jl qQ Red qD Go.Ab.Fin qt Rz yZ qO qJ ResOk jt qU jN qG
def VK (c:Chg):Int:=if (¬ c.kind = 3 ∧ ¬ c.to = []) ∨ (¬ c.kind = 2 ∧ ¬ c.text = []) then 1 else if 300 < c.text.length then 2 else if c.base < -1 ∨ 1000000 < c.base then 3 else 0
def QG (c:Chg):Int :=
 if c.kind < 1 ∨ 4 < c.kind then 7
 else if ¬ jO c.path = 0 then jO c.path
 else if c.kind = 3 ∧ ¬ jO c.to = 0 then jO c.to
 else VK c
end Go.Proofs.YtahbbnfmbohmmaaDoor
set_option linter.unusedSimpArgs false
set_option linter.unnecessarySimpa false
set_option linter.unusedVariables false
set_option maxHeartbeats 1000000
namespace Go.Proofs.YtahbbnfmbohmmaaDoor
open Go.Ab Go.RowKit
set_option maxRecDepth 10000
attribute [local irreducible] Awp jU jl qQ Red qD Go.Ab.Fin qt Rz yZ qO qJ ResOk jt qU jN qG
def KO (c:Chg):qo:=if c.kind = 3 then c.to else c.path
def qbm (c:Chg) (x:Ent):Bool:=decide (c.base < x.ver) && ZI x.path c.path
def qaJ (t:List Ent) (p:qo):Bool:=match t.find? (atP p) with|some x=>x.fold|none=>false
def QT (t:List Ent) (c:Chg):Int:=if c.kind = 1 then (if Qc t c.path = true then 6 else 0) else if c.kind = 2 then (if qaJ t c.path = true then 4 else 0) else (if Qc t c.path = true then 0 else 5)
def qas (t:List Ent) (c:Chg):Int:=if c.kind = 3 then (if ZI c.to c.path = true then 3 else if Qc t c.to = true then 6 else 0) else 0
def Wj (t:List Ent) (c:Chg):Int:=if ¬ c.base = -1 ∧ t.any (qbm c) = true then 8 else 0
def KU (t:List Ent) (c:Chg):Int :=
 if ¬ JH t (Xo (KO c)) = 0 then JH t (Xo (KO c))
 else if ¬ QT t c = 0 then QT t c
 else if ¬ qas t c = 0 then qas t c else Wj t c
end Go.Proofs.YtahbbnfmbohmmaaDoor
set_option linter.unusedSimpArgs false
set_option linter.unnecessarySimpa false
set_option linter.unusedVariables false
set_option maxHeartbeats 1000000
namespace Go.Proofs.YtahbbnfmbohmmaaDoor
open Go.Ab Go.RowKit
set_option maxRecDepth 10000
attribute [local irreducible] Awp jU jl qQ Red qD Go.Ab.Fin qt Rz yZ qO qJ ResOk jt qU jN qG
def Jb (t:List Ent) (x:Ent):List Ent:=if Qc t x.path = true then t.take (Jw t x.path) ++ ([x] ++ t.drop (Jw t x.path + 1)) else t.take (Jw t x.path) ++ ([x] ++ t.drop (Jw t x.path))
end Go.Proofs.YtahbbnfmbohmmaaDoor
set_option linter.unusedSimpArgs false
set_option linter.unnecessarySimpa false
set_option linter.unusedVariables false
set_option maxHeartbeats 1000000
namespace Go.Proofs.YtahbbnfmbohmmaaDoor
open Go.Ab Go.RowKit
set_option maxRecDepth 10000
attribute [local irreducible] Awp jU jl qQ Red qD Go.Ab.Fin qt Rz yZ qO qJ ResOk jt qU jN qG
def KS (p:Ent → Bool) (t:List Ent):List Ent:=t.filter fun x => !p x
def inP (p:qo) (x:Ent):Bool:=ZI x.path p
end Go.Proofs.YtahbbnfmbohmmaaDoor
set_option linter.unusedSimpArgs false
set_option linter.unnecessarySimpa false
set_option linter.unusedVariables false
set_option maxHeartbeats 1000000
namespace Go.Proofs.YtahbbnfmbohmmaaDoor
open Go.Ab Go.RowKit
set_option maxRecDepth 10000
attribute [local irreducible] Awp jU jl qQ Red qD Go.Ab.Fin qt Rz yZ qO qJ ResOk jt qU jN qG
def KV (c:Chg) (v:Int) (x:Ent):Ent:=⟨c.to ++ x.path.drop c.path.length,x.fold,x.text,if x.path = c.path then v else x.ver⟩
def qaL (t:List Ent) (c:Chg) (v:Int):List Ent:=(t.filter (inP c.path)).map (KV c v)
def QK (t:List Ent) (c:Chg) (v:Int):List Ent :=
 if c.kind = 1 then Jb t ⟨c.path,true,[],v⟩
 else if c.kind = 2 then Jb t ⟨c.path,false,c.text,v⟩
 else if c.kind = 4 then KS (inP c.path) t
 else (qaL t c v).foldl Jb (KS (inP c.path) t)
def Ql (t:List Ent) (c:Chg):Bool:=decide (c.kind = 3) && (t.filter (inP c.path)).any fun x=>vQ (c.to ++ x.path.drop c.path.length)
def KB (t:List Ent) (c:Chg) (v:Int):Int:=if Ql t c = true then 2 else if 60 < (QK t c v).length then 2 else 0
end Go.Proofs.YtahbbnfmbohmmaaDoor
set_option linter.unusedSimpArgs false
set_option linter.unnecessarySimpa false
set_option linter.unusedVariables false
namespace Go.Proofs.YtahbbnfmbohmmaaDoor
open Go.Op
theorem qao {a b:qo} (h:bytesLess a b = true):¬ a = b:=fun e=>by rw [e,qaD] at h;cases h
theorem qaE {a b:qo} (h1:bytesLess a b = false) (h2:¬ a = b):bytesLess b a = true:=by
 rcases XO a b with ⟨h,_,_⟩|⟨h,_,_⟩|⟨h,_,_⟩
 ·rw [h] at h1;cases h1
 ·exact absurd h h2
 ·exact h
theorem Wi (p:qo) : ∀ {t:List Ent},t.Pairwise (fun a b=>bytesLess a.path b.path = true) → ∃ A M Z,t = A ++ (M ++ Z) ∧ Jw t p = A.length ∧ (∀ a,a ∈ A → bytesLess a.path p = true) ∧ (∀ z,z ∈ Z → bytesLess p z.path = true) ∧
  ((Qc t p = true ∧ ∃ x,M = [x] ∧ x.path = p) ∨ (Qc t p = false ∧ M = []))
 | [],_=>⟨[],[],[],rfl,rfl,nofun,nofun,.inr ⟨rfl,rfl⟩⟩
 | x :: l,h=>by
   obtain ⟨h1,h2⟩:=List.pairwise_cons.1 h
   by_cases hx:bytesLess x.path p = true
   ·obtain ⟨A,M,Z,rfl,hp,hA,hZ,hM⟩:=Wi p h2
    have hp' : Jw (x :: (A ++ (M ++ Z))) p = A.length + 1:=by
     simp only [Jw,List.takeWhile_cons,hx,if_true,List.length_cons] at hp ⊢;omega
    have hh:Qc (x :: (A ++ (M ++ Z))) p = Qc (A ++ (M ++ Z)) p:=by
     simp [Qc,atP,qao hx]
    refine ⟨x :: A,M,Z,rfl,hp',fun a ha=>?_,hZ,by rw [hh];exact hM⟩
    rcases List.mem_cons.1 ha with rfl|ha
    ·exact hx
    ·exact hA a ha
   ·have hx:bytesLess x.path p = false:=by simpa using hx
    have hp:Jw (x :: l) p = 0:=by simp [Jw,List.takeWhile_cons,hx]
    by_cases e:x.path = p
    ·subst e
     exact ⟨[],[x],l,rfl,hp,nofun,fun z hz=>h1 z hz,.inl ⟨by simp [Qc,atP],x,rfl,rfl⟩⟩
    ·have hg:=qaE hx e
     have hall : ∀ z,z ∈ x :: l → bytesLess p z.path = true:=fun z hz=>by
      rcases List.mem_cons.1 hz with rfl|hz
      ·exact hg
      ·exact QD hg (h1 z hz)
     refine ⟨[],[],x :: l,rfl,hp,nofun,hall,.inr ⟨List.any_eq_false.2 fun z hz=>?_,rfl⟩⟩
     have:=qao (hall z hz)
     simp only [atP,decide_eq_true_eq]
     exact fun e=>this e.symm
theorem X7 {t A M Z:List Ent} {x:Ent} (h:t = A ++ (M ++ Z)) (hp:Jw t x.path = A.length) (hM:(Qc t x.path = true ∧ ∃ y,M = [y] ∧ y.path = x.path) ∨ (Qc t x.path = false ∧ M = [])):Jb t x = A ++ ([x] ++ Z):=by
 unfold Jb
 rw [hp]
 have h1:t.take A.length = A:=by rw [h];simp
 rw [h1]
 rcases hM with ⟨hh,y,rfl,_⟩|⟨hh,rfl⟩
 ·simp only [hh,if_true];rw [h];simp
 ·simp only [hh,Bool.false_eq_true,if_false];rw [h];simp
theorem zK {t:List Ent} {x:Ent} (hs:y6 zz t = true):y6 zz (Jb t x) = true:=by
 have hl:=x7.1 hs
 obtain ⟨A,M,Z,h,hp,hA,hZ,hM⟩:=Wi x.path hl
 rw [X7 h hp hM]
 refine x7.2 ?_
 have hsub:(A ++ Z).Sublist t:=by
  rw [h];exact List.Sublist.append_left (List.sublist_append_right _ _) _
 obtain ⟨pA,pZ,pAZ⟩:=List.pairwise_append.1 (hl.sublist hsub)
 refine List.pairwise_append.2 ⟨pA,List.pairwise_cons.2 ⟨fun z hz=>hZ z hz,pZ⟩,fun a ha b hb=>?_⟩
 rcases List.mem_cons.1 hb with rfl|hb
 ·exact hA a ha
 ·exact pAZ a ha b hb
theorem kX {p:Ent → Bool} {t:List Ent} (hs:y6 zz t = true):y6 zz (KS p t) = true:=x7.2 ((x7.1 hs).sublist List.filter_sublist)
theorem kj : ∀ {l t:List Ent},y6 zz t = true → y6 zz (l.foldl Jb t) = true
 | [],_,h=>h
 | x :: l,t,h=>kj (l:=l) (zK h)
theorem Xk {p f t:qo} (hp:jO p = 0) (hf:jO f = 0) (ht:jO t = 0) (hi:ZI p f = true):vL p f t = if vQ (t ++ p.drop f.length) = true then 2 else 0:=by
 unfold vL
 rw [if_pos (by simp [xI,hp,hf,ht]),if_pos hi]
end Go.Proofs.YtahbbnfmbohmmaaDoor
set_option linter.unusedSimpArgs false
set_option linter.unnecessarySimpa false
set_option linter.unusedVariables false
namespace Go.Proofs.YtahbbnfmbohmmaaDoor
open Go.Op
end Go.Proofs.YtahbbnfmbohmmaaDoor
set_option linter.unusedSimpArgs false
set_option linter.unnecessarySimpa false
set_option linter.unusedVariables false
set_option maxHeartbeats 1000000
namespace Go.Proofs.YtahbbnfmbohmmaaDoor
open Go.Ab Go.RowKit
set_option maxRecDepth 10000
attribute [local irreducible] Awp jU jl qQ Red qD Go.Ab.Fin qt Rz yZ qO qJ ResOk jt qU jN qG
end Go.Proofs.YtahbbnfmbohmmaaDoor
set_option linter.unusedSimpArgs false
set_option linter.unnecessarySimpa false
namespace Go.Proofs.YtahbbnfmbohmmaaDoor
theorem XZ {s:qo}:wx s = true ↔ s ≠ [] ∧ s.length ≤ 20 ∧ s ≠ [46] ∧ s ≠ [46,46] ∧ s.head? ≠ some 32 ∧ s.getLast? ≠ some 32 ∧ ∀ c,c ∈ s → okB c = true:=by
 simp [wx,and_assoc]
theorem Xj {s:qo} (h:wx s = true):(47:UInt8) ∉ s:=fun hm=>by
 have:=(XZ.1 h).2.2.2.2.2.2 47 hm
 exact absurd this (by decide)
theorem zg {p:qo}:jO p = 0 ↔ (∀ n,n ∈ qW p → wx n = true) ∧ vQ p = false:=by
 unfold jO
 constructor
 ·intro h
  split at h
  ·rename_i h1
   split at h
   ·exact absurd h (by decide)
   ·rename_i h2
    exact ⟨List.all_eq_true.1 h1,by simpa using h2⟩
  ·exact absurd h (by decide)
 ·rintro ⟨h1,h2⟩
  rw [if_pos (List.all_eq_true.2 h1),h2];rfl
theorem j4 {p:qo} {l:List qo}:xI (p :: l) = 0 ↔ jO p = 0 ∧ xI l = 0:=by
 show (if jO p = 0 then xI l else jO p) = 0 ↔ _
 split
 ·rename_i h;simp [h]
 ·rename_i h;simp [h]
theorem XN {p f t:qo} (h:vL p f t = 0) :
  vL (t ++ p.drop f.length) t f = 0 ∧ xI [t ++ p.drop f.length,t] = 0 ∧ ZI (t ++ p.drop f.length) t = true ∧ f ++ (t ++ p.drop f.length).drop t.length = p:=by
 unfold vL at h
 split at h
 case isFalse h'=>exact absurd h h'
 rename_i h0
 split at h
 case isFalse=>exact absurd h (by decide)
 rename_i hi
 split at h
 case isTrue=>exact absurd h (by decide)
 rename_i hg
 obtain ⟨hp,h1⟩:=j4.1 h0
 obtain ⟨hf,h2⟩:=j4.1 h1
 obtain ⟨ht, -⟩:=j4.1 h2
 obtain ⟨np,gp⟩:=zg.1 hp
 obtain ⟨nt, -⟩:=zg.1 ht
 have hr:=ZN (t:=t) hi
 have hall : ∀ n,n ∈ qW t ++ (qW p).drop (qW f).length → wx n = true:=fun n hm=>by
  rcases List.mem_append.1 hm with hm|hm
  ·exact nt n hm
  ·exact np n (List.mem_of_mem_drop hm)
 have hnm:qW (t ++ p.drop f.length) = qW t ++ (qW p).drop (qW f).length:=by
  rw [← hr]
  exact Q0 (by simp [xD]) fun n hm=>Xj (hall n hm)
 have hm:jO (t ++ p.drop f.length) = 0:=zg.2 ⟨by rw [hnm];exact hall,by simpa using hg⟩
 have hb:ZI (t ++ p.drop f.length) t = true:=by
  rw [WV,hnm,List.isPrefixOf_iff_prefix];exact List.prefix_append ..
 have hpre:f ++ p.drop f.length = p:=by
  simp only [ZI,Bool.or_eq_true,decide_eq_true_eq,List.isPrefixOf_iff_prefix] at hi
  rcases hi with rfl|⟨s,rfl⟩
  ·simp
  ·rw [List.append_assoc,List.drop_left]
 have hback:f ++ (t ++ p.drop f.length).drop t.length = p:=by rw [List.drop_left];exact hpre
 refine ⟨?_,?_,hb,hback⟩
 ·unfold vL
  rw [if_pos (j4.2 ⟨hm,j4.2 ⟨ht,j4.2 ⟨hf,rfl⟩⟩⟩),if_pos hb,hback,gp];rfl
 ·exact j4.2 ⟨hm,j4.2 ⟨ht,rfl⟩⟩
end Go.Proofs.YtahbbnfmbohmmaaDoor
set_option linter.unusedSimpArgs false
set_option linter.unnecessarySimpa false
set_option linter.unusedVariables false
set_option maxHeartbeats 1000000
namespace Go.Proofs.YtahbbnfmbohmmaaDoor
open Go.Ab Go.RowKit
set_option maxRecDepth 10000
attribute [local irreducible] Awp jU jl qQ Red qD Go.Ab.Fin qt Rz yZ qO qJ ResOk jt qU jN qG
structure RightE (t:List Ent):Prop where
 rise:y6 zz t = true
 paths : ∀ x,x ∈ t → jO x.path = 0
 few:t.length ≤ 400000
def qbz (t:List Ent) (c:Chg) (v:Int):Int:=if ¬ QG c = 0 then QG c else if ¬ KU t c = 0 then KU t c else KB t c v
theorem Y0 {c:Chg} (h:QG c = 0):1 ≤ c.kind ∧ c.kind ≤ 4 ∧ jO c.path = 0 ∧ (c.kind = 3 → jO c.to = 0) ∧ VK c = 0:=by
 unfold QG at h
 split at h
 ·exact absurd h (by decide)
 ·split at h
  ·contradiction
  ·rename_i h1 h2
   split at h
   ·rename_i h3;exact absurd h h3.2
   ·rename_i h3
    refine ⟨by omega,by omega,by simpa using h2,fun h4=>?_,h⟩
    have h5:=fun e=>h3 ⟨h4,e⟩
    simpa using h5
theorem QZ {t:List Ent} {x y:Ent} (h:y ∈ Jb t x):y = x ∨ y ∈ t:=by
 unfold Jb at h
 split at h
 ·rcases List.mem_append.1 h with h|h
  ·exact .inr (List.mem_of_mem_take h)
  ·rcases List.mem_append.1 h with h|h
   ·exact .inl (List.mem_singleton.1 h)
   ·exact .inr (List.mem_of_mem_drop h)
 ·rcases List.mem_append.1 h with h|h
  ·exact .inr (List.mem_of_mem_take h)
  ·rcases List.mem_append.1 h with h|h
   ·exact .inl (List.mem_singleton.1 h)
   ·exact .inr (List.mem_of_mem_drop h)
theorem QY : ∀ {l t:List Ent} {y:Ent},y ∈ l.foldl Jb t → y ∈ l ∨ y ∈ t
 | [],_,_,h => .inr h
 | x :: l,t,y,h=>by
   rcases QY (l:=l) (t:=Jb t x) h with h|h
   ·exact .inl (List.mem_cons_of_mem _ h)
   ·rcases QZ h with rfl|h
    ·exact .inl (List.mem_cons_self ..)
    ·exact .inr h
theorem Yx {c:Chg} {v:Int} {x:Ent} (hx:jO x.path = 0) (h1:jO c.path = 0) (h2:jO c.to = 0) (hi:ZI x.path c.path = true) (hg:vQ (c.to ++ x.path.drop c.path.length) = false):jO (KV c v x).path = 0:=by
 have hm:=Xk hx h1 h2 hi
 rw [hg,if_neg (by decide)] at hm
 have:=(XN hm).2.1
 exact (j4.1 this).1
theorem WI {t:List Ent} {c:Chg} {v:Int} (h:KB t c v = 0):Ql t c = false ∧ (QK t c v).length ≤ 60:=by
 unfold KB at h
 split at h
 ·exact absurd h (by decide)
 ·split at h
  ·exact absurd h (by decide)
  ·rename_i h1 h2
   exact ⟨by simpa using h1,by omega⟩
theorem Y6 {t:List Ent} {c:Chg} {v:Int} (ht : ∀ x,x ∈ t → jO x.path = 0) (hce:QG c = 0) (hbad:Ql t c = false) : ∀ x,x ∈ QK t c v → jO x.path = 0:=by
 obtain ⟨k1,k2,hpe,hto, -⟩:=Y0 hce
 intro x hx
 unfold QK at hx
 split at hx
 ·rcases QZ hx with rfl|h
  ·exact hpe
  ·exact ht x h
 ·split at hx
  ·rcases QZ hx with rfl|h
   ·exact hpe
   ·exact ht x h
  ·split at hx
   ·exact ht x (List.mem_filter.1 hx).1
   ·have k3:c.kind = 3:=by omega
    rcases QY hx with h|h
    ·obtain ⟨y,hy,rfl⟩:=List.mem_map.1 h
     obtain ⟨hy1,hy2⟩:=List.mem_filter.1 hy
     simp only [Ql,k3,decide_true,Bool.true_and,List.any_eq_false] at hbad
     exact Yx (ht y hy1) hpe (hto k3) hy2 (by simpa using hbad y hy)
    ·exact ht x (List.mem_filter.1 h).1
theorem Yd {t:List Ent} {c:Chg} {v:Int} (hs:y6 zz t = true):y6 zz (QK t c v) = true:=by
 unfold QK
 split
 ·exact zK hs
 ·split
  ·exact zK hs
  ·split
   ·exact kX hs
   ·exact kj (kX hs)
theorem RightE.done {t:List Ent} {c:Chg} {v:Int} (h:RightE t) (hr:qbz t c v = 0):RightE (QK t c v):=by
 unfold qbz at hr
 split at hr
 ·contradiction
 ·split at hr
  ·contradiction
  ·rename_i h1 h2
   obtain ⟨h3,h4⟩:=WI hr
   exact ⟨Yd h.rise,Y6 h.paths (by simpa using h1) h3,by omega⟩
end Go.Proofs.YtahbbnfmbohmmaaDoor
set_option linter.unusedSimpArgs false
set_option linter.unnecessarySimpa false
set_option linter.unusedVariables false
set_option maxHeartbeats 1000000
namespace Go.Proofs.YtahbbnfmbohmmaaDoor
open Go.Ab Go.RowKit
set_option maxRecDepth 10000
attribute [local irreducible] Awp jU jl qQ Red qD Go.Ab.Fin qt Rz yZ qO qJ ResOk jt qU jN qG
theorem WM:WN C.P 76 = some [1,2,1,0]:=by kernel_rfl
theorem ZW (a b:Ent):wb [1,2,1,0] a.row b.row = some (decide (a = b)):=by
 obtain ⟨a1,a2,a3,a4⟩:=a
 obtain ⟨b1,b2,b3,b4⟩:=b
 simp only [Ent.row,wb,ku,str,Ent.mk.injEq,if_true,Option.some.injEq]
 by_cases h1:a1 = b1<;>by_cases h2:a2 = b2<;>by_cases h3:a3 = b3<;>by_cases h4:a4 = b4<;>simp [h1,h2,h3,h4]
theorem wQ {α:Type} {a b:List α} {i:Nat} (h1:i < a.length) (h2:i < b.length) (h:a.take i = b.take i) (h3:a[i] = b[i]):a.take (i + 1) = b.take (i + 1):=by
 rw [List.take_succ_eq_append_getElem h1,List.take_succ_eq_append_getElem h2,h,h3]
theorem Jp (a b:List Ent) (ha:a.length ≤ 1000000000) (hb:b.length ≤ 1000000000):zm C.P 64 [yf a,yf b] (.v (.bool (decide (a = b)))):=by
 have hma:(a.map Ent.row).length = a.length:=List.length_map ..
 have hmb:(b.map Ent.row).length = b.length:=List.length_map ..
 refine qf Tryd.func64 rfl _ Tryd.ntmps64 (Nat.le_of_ble_eq_true rfl) _ Tryd.results64 0 rfl rfl ?_
 repeat' (first|refine vF ?_|fail|((first|refine xsC ?_ ?_);all_goals (intro hc;have hp:=hc;try simp at hp;try (exfalso;omega)))|refine qS ?_ ?_)
 ·apply xa
  rfl
  have hne:¬ a = b:=fun e=>by subst e;simp at *
  simp [hne]
 have hab:a.length = b.length:=by simp at *;omega
 (refine Awp.red (xJ (ts:=[(0,yf a),(1,yf b),(5,.v (.int .i64 ((0:Nat):Int)))]) ?_) ?_;((repeat (first|exact qh|refine qA ?_|refine jy ?_ ?_))))
 refine jC (fun n σ => ∃ i:Nat,i ≤ a.length ∧ n = a.length - i ∧ (a.take i = b.take i) ∧ σ = ⟨[(0,yf a),(1,yf b),(5,.v (.int .i64 (i:Int)))],[],C.nh⟩) a.length ⟨0,Nat.zero_le _,rfl,rfl,rfl⟩ ?_
 rintro n σ ⟨i,hi,rfl,hsofar,rfl⟩
 by_cases hlt:i < a.length
 ·have hlt2:i < b.length:=by omega
  have hr:=yA (f:=Ent.row) hlt
  have hr':=yA (f:=Ent.row) hlt2
  have hnx:=wQ hlt hlt2 hsofar
  repeat' (first|refine vF ?_|(first|(apply qp;apply Xd;rfl;rfl;exact WM;exact ZW _ _;(first|exact .inl ⟨rfl,rfl⟩|exact .inr ⟨rfl,rfl⟩);exact nle rfl))|((first|refine xsC ?_ ?_);all_goals (intro hc;have hp:=hc;try simp at hp;try (exfalso;omega)))|refine qS ?_ ?_)
  all_goals try (exfalso;omega)
  ·apply xa
   rfl
   have hne:¬ a = b:=fun e=>by subst e;simp at *
   simp [hne]
  ·refine ⟨a.length - (i + 1),_,by omega,xJ (ts:=[(0,yf a),(1,yf b),(5,.v (.int .i64 ((i + 1:Nat):Int)))]) ?_,i + 1,by omega,rfl,(hnx (by simp_all)),rfl⟩;((repeat (first|exact qh|refine qA ?_|refine jy ?_ ?_)))
 obtain rfl:i = a.length:=by omega
 have he:a = b:=by rw [List.take_length] at hsofar;rw [hsofar,hab,List.take_length]
 repeat' (first|refine vF ?_|fail|((first|refine xsC ?_ ?_);all_goals (intro hc;have hp:=hc;try simp at hp;try (exfalso;omega)))|refine qS ?_ ?_)
 all_goals try (exfalso;omega)
 apply xa
 rfl
 simp [he]
end Go.Proofs.YtahbbnfmbohmmaaDoor
set_option linter.unusedSimpArgs false
set_option linter.unnecessarySimpa false
set_option linter.unusedVariables false
set_option maxHeartbeats 1000000
namespace Go.Proofs.YtahbbnfmbohmmaaDoor
open Go.Ab Go.RowKit
set_option maxRecDepth 10000
attribute [local irreducible] Awp jU jl qQ Red qD Go.Ab.Fin qt Rz yZ qO qJ ResOk jt qU jN qG
theorem WL:WN C.P 97 = some [0,1,1,1,0]:=by kernel_rfl
theorem ZV (a b:Chg):wb [0,1,1,1,0] a.row b.row = some (decide (a = b)):=by
 obtain ⟨a1,a2,a3,a4,a5⟩:=a
 obtain ⟨b1,b2,b3,b4,b5⟩:=b
 simp only [Chg.row,wb,ku,str,Chg.mk.injEq,if_true,Option.some.injEq]
 by_cases h1:a1 = b1<;>by_cases h2:a2 = b2<;>by_cases h3:a3 = b3<;>by_cases h4:a4 = b4<;>by_cases h5:a5 = b5<;>simp [h1,h2,h3,h4,h5]
theorem Jo (a b:List Chg) (ha:a.length ≤ 1000000000) (hb:b.length ≤ 1000000000):zm C.P 36 [j5 a,j5 b] (.v (.bool (decide (a = b)))):=by
 have hma:(a.map Chg.row).length = a.length:=List.length_map ..
 have hmb:(b.map Chg.row).length = b.length:=List.length_map ..
 refine qf Tryd.func36 rfl _ Tryd.ntmps36 (Nat.le_of_ble_eq_true rfl) _ Tryd.results36 0 rfl rfl ?_
 repeat' (first|refine vF ?_|fail|((first|refine xsC ?_ ?_);all_goals (intro hc;have hp:=hc;try simp at hp;try (exfalso;omega)))|refine qS ?_ ?_)
 ·apply xa
  rfl
  have hne:¬ a = b:=fun e=>by subst e;simp at *
  simp [hne]
 have hab:a.length = b.length:=by simp at *;omega
 (refine Awp.red (xJ (ts:=[(0,j5 a),(1,j5 b),(5,.v (.int .i64 ((0:Nat):Int)))]) ?_) ?_;((repeat (first|exact qh|refine qA ?_|refine jy ?_ ?_))))
 refine jC (fun n σ => ∃ i:Nat,i ≤ a.length ∧ n = a.length - i ∧ (a.take i = b.take i) ∧ σ = ⟨[(0,j5 a),(1,j5 b),(5,.v (.int .i64 (i:Int)))],[],C.nh⟩) a.length ⟨0,Nat.zero_le _,rfl,rfl,rfl⟩ ?_
 rintro n σ ⟨i,hi,rfl,hsofar,rfl⟩
 by_cases hlt:i < a.length
 ·have hlt2:i < b.length:=by omega
  have hr:=yA (f:=Chg.row) hlt
  have hr':=yA (f:=Chg.row) hlt2
  have hnx:=wQ hlt hlt2 hsofar
  repeat' (first|refine vF ?_|(first|(apply qp;apply Xd;rfl;rfl;exact WL;exact ZV _ _;(first|exact .inl ⟨rfl,rfl⟩|exact .inr ⟨rfl,rfl⟩);exact nle rfl))|((first|refine xsC ?_ ?_);all_goals (intro hc;have hp:=hc;try simp at hp;try (exfalso;omega)))|refine qS ?_ ?_)
  all_goals try (exfalso;omega)
  ·apply xa
   rfl
   have hne:¬ a = b:=fun e=>by subst e;simp at *
   simp [hne]
  ·refine ⟨a.length - (i + 1),_,by omega,xJ (ts:=[(0,j5 a),(1,j5 b),(5,.v (.int .i64 ((i + 1:Nat):Int)))]) ?_,i + 1,by omega,rfl,(hnx (by simp_all)),rfl⟩;((repeat (first|exact qh|refine qA ?_|refine jy ?_ ?_)))
 obtain rfl:i = a.length:=by omega
 have he:a = b:=by rw [List.take_length] at hsofar;rw [hsofar,hab,List.take_length]
 repeat' (first|refine vF ?_|fail|((first|refine xsC ?_ ?_);all_goals (intro hc;have hp:=hc;try simp at hp;try (exfalso;omega)))|refine qS ?_ ?_)
 all_goals try (exfalso;omega)
 apply xa
 rfl
 simp [he]
end Go.Proofs.YtahbbnfmbohmmaaDoor
