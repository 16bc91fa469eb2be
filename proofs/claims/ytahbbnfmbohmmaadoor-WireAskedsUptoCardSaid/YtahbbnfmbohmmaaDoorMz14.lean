import Derived.Test.YtahbbnfmbohmmaaDoorMz13
import Derived.RangeFuncNested
import Derived.RangeFuncBound
import Derived.RangeFuncCalls
import Derived.RangeFuncLeaves
import Derived.Shelf.Abstract
import Derived.Shelf.RegionOpen
import Derived.WalkKit
import Derived.OwnWalkIn
import Derived.TacticsInMore
import Derived.LoopNIn
import Derived.LoopIn
import Derived.Test.YtahbbnfmbohmmaaDoorMz5
import Derived.Test.YtahbbnfmbohmmaaDoorMz1
import Derived.Test.YtahbbnfmbohmmaaDoorMz2
set_option linter.unusedSimpArgs false
set_option linter.unnecessarySimpa false
namespace Go.Proofs.YtahbbnfmbohmmaaDoor
open Go.Ab Go.RowKit Go.Shelf
set_option maxRecDepth 10000
attribute [local go_sem] Oper.semAt_some
theorem kept {A B:World} {k:Nat} {o:Obj} (hg:A.grownBy B Option.none) (h:A.heap[k]? = some o):B.heap[k]? = some o:=(hg.block k (Array.getElem?_eq_some_iff.1 h).1 (by simp)).trans h
theorem _root_.Go.World.grownBy.weaken {A B:World} (h:A.grownBy B Option.none) (r:Option Nat):A.grownBy B r:=⟨h.os,h.tape,h.output,h.size,fun k hk _=>h.block k hk (by simp)⟩
theorem VP {W:World} {b T:Nat} {v:Value} (h:W.heap[b]? = some (.cells #[v] T (0,0))) (u:Value):(W.setCell ⟨b,0,none⟩ u).heap[b]? = some (.cells #[u] T (0,0)):=by
 obtain ⟨hlt,hb⟩:=Array.getElem?_eq_some_iff.1 h
 show (W.heap.modify b _)[b]? = _
 rw [Array.getElem?_eq_getElem (by rw [Array.size_modify];exact hlt),Array.getElem_modify_self,hb]
 rfl
theorem JL (W:World) {b k:Nat} (u:Value) (h:k ≠ b):(W.setCell ⟨b,0,none⟩ u).heap[k]? = W.heap[k]?:=Below.heap_setCell W ⟨b,0,none⟩ u k h
end Go.Proofs.YtahbbnfmbohmmaaDoor
set_option linter.unusedSimpArgs false
set_option linter.unnecessarySimpa false
namespace Go.Proofs.YtahbbnfmbohmmaaDoor
open Go.Ab Go.RowKit Go.Shelf
set_option maxRecDepth 10000
attribute [local go_sem] Oper.semAt_some
abbrev mk (D:Nat):Deferred := { target := .collected D,args := #[] }
structure ChkW (w:World) (e:Int) (Ds:List Nat) (W:World):Prop where
 below:Below w.heap.size w W
 cell:W.heap[w.heap.size]? = some (.cells #[.int .i64 e] 25 (0,0))
 marks : ∀ D,D ∈ Ds → w.heap.size < D ∧ W.heap[D]? = some (.deferred (some []))
theorem ChkW.grown {w:World} {e:Int} {Ds:List Nat} {W W' : World} {row:Option Nat} (h:ChkW w e Ds W) (hg:W.grownBy W' row) (hr : ∀ r,row = some r → w.heap.size < r ∧ r ∉ Ds):ChkW w e Ds W':=by
 have hlt:=(Array.getElem?_eq_some_iff.1 h.cell).1
 refine ⟨h.below.grown hg (by omega) (fun k e=>by have:=(hr k e).1;omega),(hg.block _ hlt (fun e=>by have:=(hr _ e.symm).1;omega)).trans h.cell,fun D hD=>⟨(h.marks D hD).1,?_⟩⟩
 exact (hg.block D (Array.getElem?_eq_some_iff.1 (h.marks D hD).2).1 (fun e=>(hr _ e.symm).2 hD)).trans (h.marks D hD).2
theorem ChkW.lt {w:World} {e:Int} {Ds:List Nat} {W:World} (h:ChkW w e Ds W):w.heap.size < W.heap.size:=(Array.getElem?_eq_some_iff.1 h.cell).1
theorem ChkW.set {w:World} {e:Int} {Ds:List Nat} {W:World} (h:ChkW w e Ds W) (e' : Int):ChkW w e' Ds (W.setCell ⟨w.heap.size,0,Option.none⟩ (.int .i64 e')) :=
 ⟨h.below.setCell (Nat.le_refl _) _,VP h.cell _,fun D hD=>⟨(h.marks D hD).1,(JL W _ (by have:=(h.marks D hD).1;omega)).trans (h.marks D hD).2⟩⟩
end Go.Proofs.YtahbbnfmbohmmaaDoor
set_option linter.unusedSimpArgs false
set_option linter.unnecessarySimpa false
set_option maxHeartbeats 1000000
namespace Go.Proofs.YtahbbnfmbohmmaaDoor
open Go.Ab Go.RowKit
set_option maxRecDepth 10000
attribute [local irreducible] Awp jE qX qG Red qx Go.Ab.Fin qp Rz yI qE qB ResOk je qJ jx qy
end Go.Proofs.YtahbbnfmbohmmaaDoor
set_option linter.unusedSimpArgs false
set_option linter.unnecessarySimpa false
set_option maxHeartbeats 1000000
namespace Go.Proofs.YtahbbnfmbohmmaaDoor
open Go.Ab Go.RowKit
set_option maxRecDepth 10000
attribute [local irreducible] Awp jE qX qG Red qx Go.Ab.Fin qp Rz yI qE qB ResOk je qJ jx qy
def xY (p f t:qh):Int:=if yY [p,f,t] = 0 then (if XV p f then (if vc (t ++ p.drop f.length) then 2 else 0) else 5) else yY [p,f,t]
end Go.Proofs.YtahbbnfmbohmmaaDoor
set_option linter.unusedSimpArgs false
set_option linter.unnecessarySimpa false
set_option maxHeartbeats 1000000
namespace Go.Proofs.YtahbbnfmbohmmaaDoor
open Go.Ab Go.RowKit
set_option maxRecDepth 10000
attribute [local irreducible] Awp jE qX qG Red qx Go.Ab.Fin qp Rz yI qE qB ResOk je qJ jx qy
end Go.Proofs.YtahbbnfmbohmmaaDoor
set_option linter.unusedSimpArgs false
set_option linter.unnecessarySimpa false
set_option maxHeartbeats 1000000
namespace Go.Proofs.YtahbbnfmbohmmaaDoor
open Go.Ab Go.RowKit
set_option maxRecDepth 10000
attribute [local irreducible] Awp jE qX qG Red qx Go.Ab.Fin qp Rz yI qE qB ResOk je qJ jx qy
end Go.Proofs.YtahbbnfmbohmmaaDoor
set_option linter.unusedSimpArgs false
set_option linter.unnecessarySimpa false
set_option maxHeartbeats 1000000
namespace Go.Proofs.YtahbbnfmbohmmaaDoor
open Go.Ab Go.RowKit
set_option maxRecDepth 10000
attribute [local irreducible] Awp jE qX qG Red qx Go.Ab.Fin qp Rz yI qE qB ResOk je qJ jx qy
def K1 (p:qh) (i:Nat):Nat:=i - (KC (p.take i)).length
def WH (p:qh) (i:Nat):List qh:=(qz (p.take i)).dropLast
@[simp] theorem K7 (p:qh):WH p 0 = []:=rfl
@[simp] theorem Kz (p:qh):K1 p 0 = 0:=rfl
@[simp] theorem Kg (s:qh):cellsOf (AV.v (str s)) = [AV.v (str s)]:=rfl
end Go.Proofs.YtahbbnfmbohmmaaDoor
set_option linter.unusedSimpArgs false
set_option linter.unnecessarySimpa false
set_option maxHeartbeats 1000000
namespace Go.Proofs.YtahbbnfmbohmmaaDoor
open Go.Ab Go.RowKit
set_option maxRecDepth 10000
attribute [local irreducible] Awp jE qX qG Red qx Go.Ab.Fin qp Rz yI qE qB ResOk je qJ jx qy
end Go.Proofs.YtahbbnfmbohmmaaDoor
set_option linter.unusedSimpArgs false
set_option linter.unnecessarySimpa false
set_option maxHeartbeats 1000000
namespace Go.Proofs.YtahbbnfmbohmmaaDoor
open Go.Ab Go.RowKit
set_option maxRecDepth 10000
attribute [local irreducible] Awp jE qX qG Red qx Go.Ab.Fin qp Rz yI qE qB ResOk je qJ jx qy
end Go.Proofs.YtahbbnfmbohmmaaDoor
set_option linter.unusedSimpArgs false
set_option linter.unnecessarySimpa false
set_option maxHeartbeats 1000000
namespace Go.Proofs.YtahbbnfmbohmmaaDoor
open Go.Ab Go.RowKit
set_option maxRecDepth 10000
attribute [local irreducible] Awp jE qX qG Red qx Go.Ab.Fin qp Rz yI qE qB ResOk je qJ jx qy
end Go.Proofs.YtahbbnfmbohmmaaDoor
set_option linter.unusedSimpArgs false
set_option linter.unnecessarySimpa false
set_option maxHeartbeats 1000000
namespace Go.Proofs.YtahbbnfmbohmmaaDoor
open Go.Ab Go.RowKit
set_option maxRecDepth 10000
attribute [local irreducible] Awp jE qX qG Red qx Go.Ab.Fin qp Rz yI qE qB ResOk je qJ jx qy
end Go.Proofs.YtahbbnfmbohmmaaDoor
set_option linter.unusedSimpArgs false
set_option linter.unnecessarySimpa false
set_option maxHeartbeats 1000000
namespace Go.Proofs.YtahbbnfmbohmmaaDoor
open Go.Ab Go.RowKit
set_option maxRecDepth 10000
attribute [local irreducible] Awp jE qX qG Red qx Go.Ab.Fin qp Rz yI qE qB ResOk je qJ jx qy
end Go.Proofs.YtahbbnfmbohmmaaDoor
set_option linter.unusedSimpArgs false
set_option linter.unnecessarySimpa false
set_option maxHeartbeats 1000000
namespace Go.Proofs.YtahbbnfmbohmmaaDoor
open Go.Ab Go.RowKit
set_option maxRecDepth 10000
attribute [local irreducible] Awp jE qX qG Red qx Go.Ab.Fin qp Rz yI qE qB ResOk je qJ jx qy
end Go.Proofs.YtahbbnfmbohmmaaDoor
set_option linter.unusedSimpArgs false
set_option linter.unnecessarySimpa false
set_option linter.unusedVariables false
set_option maxHeartbeats 1000000
namespace Go.Proofs.YtahbbnfmbohmmaaDoor
open Go.Ab Go.RowKit
set_option maxRecDepth 10000
attribute [local irreducible] Awp jE qX qG Red qx Go.Ab.Fin qp Rz yI qE qB ResOk je qJ jx qy
def Y5 (c:Chg):Int:=if (¬ c.kind = 3 ∧ ¬ c.to = []) ∨ (¬ c.kind = 2 ∧ ¬ c.text = []) then 1 else if 300 < c.text.length then 2 else if c.base < -1 ∨ 1000000 < c.base then 3 else 0
def wn (c:Chg):Int :=
 if c.kind < 1 ∨ 4 < c.kind then 7
 else if ¬ jo c.path = 0 then jo c.path
 else if c.kind = 3 ∧ ¬ jo c.to = 0 then jo c.to
 else Y5 c
end Go.Proofs.YtahbbnfmbohmmaaDoor
set_option linter.unusedSimpArgs false
set_option linter.unnecessarySimpa false
set_option linter.unusedVariables false
set_option maxHeartbeats 1000000
namespace Go.Proofs.YtahbbnfmbohmmaaDoor
open Go.Ab Go.RowKit
set_option maxRecDepth 10000
attribute [local irreducible] Awp jE qX qG Red qx Go.Ab.Fin qp Rz yI qE qB ResOk je qJ jx qy
def VO (c:Chg):qh:=if c.kind = 3 then c.to else c.path
def K6 (c:Chg) (x:Ent):Bool:=decide (c.base < x.ver) && XV x.path c.path
def Ky (t:List Ent) (p:qh):Bool:=match t.find? (KV p) with|some x=>x.fold|none=>false
def wK (t:List Ent) (c:Chg):Int:=if c.kind = 1 then (if kN t c.path = true then 6 else 0) else if c.kind = 2 then (if Ky t c.path = true then 4 else 0) else (if kN t c.path = true then 0 else 5)
def Kj (t:List Ent) (c:Chg):Int:=if c.kind = 3 then (if XV c.to c.path = true then 3 else if kN t c.to = true then 6 else 0) else 0
def Zk (t:List Ent) (c:Chg):Int:=if ¬ c.base = -1 ∧ t.any (K6 c) = true then 8 else 0
def VX (t:List Ent) (c:Chg):Int :=
 if ¬ Qz t (JW (VO c)) = 0 then Qz t (JW (VO c))
 else if ¬ wK t c = 0 then wK t c
 else if ¬ Kj t c = 0 then Kj t c else Zk t c
end Go.Proofs.YtahbbnfmbohmmaaDoor
set_option linter.unusedSimpArgs false
set_option linter.unnecessarySimpa false
set_option linter.unusedVariables false
set_option maxHeartbeats 1000000
namespace Go.Proofs.YtahbbnfmbohmmaaDoor
open Go.Ab Go.RowKit
set_option maxRecDepth 10000
attribute [local irreducible] Awp jE qX qG Red qx Go.Ab.Fin qp Rz yI qE qB ResOk je qJ jx qy
def Qb (t:List Ent) (x:Ent):List Ent:=if kN t x.path = true then t.take (Qr t x.path) ++ ([x] ++ t.drop (Qr t x.path + 1)) else t.take (Qr t x.path) ++ ([x] ++ t.drop (Qr t x.path))
end Go.Proofs.YtahbbnfmbohmmaaDoor
set_option linter.unusedSimpArgs false
set_option linter.unnecessarySimpa false
set_option linter.unusedVariables false
set_option maxHeartbeats 1000000
namespace Go.Proofs.YtahbbnfmbohmmaaDoor
open Go.Ab Go.RowKit
set_option maxRecDepth 10000
attribute [local irreducible] Awp jE qX qG Red qx Go.Ab.Fin qp Rz yI qE qB ResOk je qJ jx qy
def VS (p:Ent → Bool) (t:List Ent):List Ent:=t.filter fun x => !p x
def Wp (p:qh) (x:Ent):Bool:=XV x.path p
end Go.Proofs.YtahbbnfmbohmmaaDoor
set_option linter.unusedSimpArgs false
set_option linter.unnecessarySimpa false
set_option linter.unusedVariables false
set_option maxHeartbeats 1000000
namespace Go.Proofs.YtahbbnfmbohmmaaDoor
open Go.Ab Go.RowKit
set_option maxRecDepth 10000
attribute [local irreducible] Awp jE qX qG Red qx Go.Ab.Fin qp Rz yI qE qB ResOk je qJ jx qy
def VY (c:Chg) (v:Int) (x:Ent):Ent:=⟨c.to ++ x.path.drop c.path.length,x.fold,x.text,if x.path = c.path then v else x.ver⟩
def KB (t:List Ent) (c:Chg) (v:Int):List Ent:=(t.filter (Wp c.path)).map (VY c v)
def wu (t:List Ent) (c:Chg) (v:Int):List Ent :=
 if c.kind = 1 then Qb t ⟨c.path,true,[],v⟩
 else if c.kind = 2 then Qb t ⟨c.path,false,c.text,v⟩
 else if c.kind = 4 then VS (Wp c.path) t
 else (KB t c v).foldl Qb (VS (Wp c.path) t)
def kY (t:List Ent) (c:Chg):Bool:=decide (c.kind = 3) && (t.filter (Wp c.path)).any fun x=>vc (c.to ++ x.path.drop c.path.length)
def VE (t:List Ent) (c:Chg) (v:Int):Int:=if kY t c = true then 2 else if 60 < (wu t c v).length then 2 else 0
end Go.Proofs.YtahbbnfmbohmmaaDoor
set_option linter.unusedSimpArgs false
set_option linter.unnecessarySimpa false
set_option linter.unusedVariables false
namespace Go.Proofs.YtahbbnfmbohmmaaDoor
open Go.Op
theorem Kf {a b:qh} (h:bytesLess a b = true):¬ a = b:=fun e=>by rw [e,Ks] at h;cases h
theorem Kt {a b:qh} (h1:bytesLess a b = false) (h2:¬ a = b):bytesLess b a = true:=by
 rcases Yk a b with ⟨h,_,_⟩|⟨h,_,_⟩|⟨h,_,_⟩
 ·rw [h] at h1;cases h1
 ·exact absurd h h2
 ·exact h
theorem Zj (p:qh) : ∀ {t:List Ent},t.Pairwise (fun a b=>bytesLess a.path b.path = true) → ∃ A M Z,t = A ++ (M ++ Z) ∧ Qr t p = A.length ∧ (∀ a,a ∈ A → bytesLess a.path p = true) ∧ (∀ z,z ∈ Z → bytesLess p z.path = true) ∧
  ((kN t p = true ∧ ∃ x,M = [x] ∧ x.path = p) ∨ (kN t p = false ∧ M = []))
 | [],_=>⟨[],[],[],rfl,rfl,nofun,nofun,.inr ⟨rfl,rfl⟩⟩
 | x :: l,h=>by
   obtain ⟨h1,h2⟩:=List.pairwise_cons.1 h
   by_cases hx:bytesLess x.path p = true
   ·obtain ⟨A,M,Z,rfl,hp,hA,hZ,hM⟩:=Zj p h2
    have hp' : Qr (x :: (A ++ (M ++ Z))) p = A.length + 1:=by
     simp only [Qr,List.takeWhile_cons,hx,if_true,List.length_cons] at hp ⊢;omega
    have hh:kN (x :: (A ++ (M ++ Z))) p = kN (A ++ (M ++ Z)) p:=by
     simp [kN,KV,Kf hx]
    refine ⟨x :: A,M,Z,rfl,hp',fun a ha=>?_,hZ,by rw [hh];exact hM⟩
    rcases List.mem_cons.1 ha with rfl|ha
    ·exact hx
    ·exact hA a ha
   ·have hx:bytesLess x.path p = false:=by simpa using hx
    have hp:Qr (x :: l) p = 0:=by simp [Qr,List.takeWhile_cons,hx]
    by_cases e:x.path = p
    ·subst e
     exact ⟨[],[x],l,rfl,hp,nofun,fun z hz=>h1 z hz,.inl ⟨by simp [kN,KV],x,rfl,rfl⟩⟩
    ·have hg:=Kt hx e
     have hall : ∀ z,z ∈ x :: l → bytesLess p z.path = true:=fun z hz=>by
      rcases List.mem_cons.1 hz with rfl|hz
      ·exact hg
      ·exact wk hg (h1 z hz)
     refine ⟨[],[],x :: l,rfl,hp,nofun,hall,.inr ⟨List.any_eq_false.2 fun z hz=>?_,rfl⟩⟩
     have:=Kf (hall z hz)
     simp only [KV,decide_eq_true_eq]
     exact fun e=>this e.symm
theorem YC {t A M Z:List Ent} {x:Ent} (h:t = A ++ (M ++ Z)) (hp:Qr t x.path = A.length) (hM:(kN t x.path = true ∧ ∃ y,M = [y] ∧ y.path = x.path) ∨ (kN t x.path = false ∧ M = [])):Qb t x = A ++ ([x] ++ Z):=by
 unfold Qb
 rw [hp]
 have h1:t.take A.length = A:=by rw [h];simp
 rw [h1]
 rcases hM with ⟨hh,y,rfl,_⟩|⟨hh,rfl⟩
 ·simp only [hh,if_true];rw [h];simp
 ·simp only [hh,Bool.false_eq_true,if_false];rw [h];simp
theorem vQ {t:List Ent} {x:Ent} (hs:yk vI t = true):yk vI (Qb t x) = true:=by
 have hl:=xr.1 hs
 obtain ⟨A,M,Z,h,hp,hA,hZ,hM⟩:=Zj x.path hl
 rw [YC h hp hM]
 refine xr.2 ?_
 have hsub:(A ++ Z).Sublist t:=by
  rw [h];exact List.Sublist.append_left (List.sublist_append_right _ _) _
 obtain ⟨pA,pZ,pAZ⟩:=List.pairwise_append.1 (hl.sublist hsub)
 refine List.pairwise_append.2 ⟨pA,List.pairwise_cons.2 ⟨fun z hz=>hZ z hz,pZ⟩,fun a ha b hb=>?_⟩
 rcases List.mem_cons.1 hb with rfl|hb
 ·exact hA a ha
 ·exact pAZ a ha b hb
theorem zY {p:Ent → Bool} {t:List Ent} (hs:yk vI t = true):yk vI (VS p t) = true:=xr.2 ((xr.1 hs).sublist List.filter_sublist)
theorem zn : ∀ {l t:List Ent},yk vI t = true → yk vI (l.foldl Qb t) = true
 | [],_,h=>h
 | x :: l,t,h=>zn (l:=l) (vQ h)
theorem JS {p f t:qh} (hp:jo p = 0) (hf:jo f = 0) (ht:jo t = 0) (hi:XV p f = true):xY p f t = if vc (t ++ p.drop f.length) = true then 2 else 0:=by
 unfold xY
 rw [if_pos (by simp [yY,hp,hf,ht]),if_pos hi]
end Go.Proofs.YtahbbnfmbohmmaaDoor
set_option linter.unusedSimpArgs false
set_option linter.unnecessarySimpa false
set_option linter.unusedVariables false
namespace Go.Proofs.YtahbbnfmbohmmaaDoor
open Go.Op
end Go.Proofs.YtahbbnfmbohmmaaDoor
set_option linter.unusedSimpArgs false
set_option linter.unnecessarySimpa false
set_option linter.unusedVariables false
set_option maxHeartbeats 1000000
namespace Go.Proofs.YtahbbnfmbohmmaaDoor
open Go.Ab Go.RowKit
set_option maxRecDepth 10000
attribute [local irreducible] Awp jE qX qG Red qx Go.Ab.Fin qp Rz yI qE qB ResOk je qJ jx qy
end Go.Proofs.YtahbbnfmbohmmaaDoor
set_option linter.unusedSimpArgs false
set_option linter.unnecessarySimpa false
namespace Go.Proofs.YtahbbnfmbohmmaaDoor
theorem Yu {s:qh}:kv s = true ↔ s ≠ [] ∧ s.length ≤ 20 ∧ s ≠ [46] ∧ s ≠ [46,46] ∧ s.head? ≠ some 32 ∧ s.getLast? ≠ some 32 ∧ ∀ c,c ∈ s → WG c = true:=by
 simp [kv,and_assoc]
theorem JO {s:qh} (h:kv s = true):(47:UInt8) ∉ s:=fun hm=>by
 have:=(Yu.1 h).2.2.2.2.2.2 47 hm
 exact absurd this (by decide)
theorem vo {p:qh}:jo p = 0 ↔ (∀ n,n ∈ qz p → kv n = true) ∧ vc p = false:=by
 unfold jo
 constructor
 ·intro h
  split at h
  ·rename_i h1
   split at h
   ·exact absurd h (by decide)
   ·rename_i h2
    exact ⟨List.all_eq_true.1 h1,by simpa using h2⟩
  ·exact absurd h (by decide)
 ·rintro ⟨h1,h2⟩
  rw [if_pos (List.all_eq_true.2 h1),h2];rfl
theorem jw {p:qh} {l:List qh}:yY (p :: l) = 0 ↔ jo p = 0 ∧ yY l = 0:=by
 show (if jo p = 0 then yY l else jo p) = 0 ↔ _
 split
 ·rename_i h;simp [h]
 ·rename_i h;simp [h]
theorem Yj {p f t:qh} (h:xY p f t = 0) :
  xY (t ++ p.drop f.length) t f = 0 ∧ yY [t ++ p.drop f.length,t] = 0 ∧ XV (t ++ p.drop f.length) t = true ∧ f ++ (t ++ p.drop f.length).drop t.length = p:=by
 unfold xY at h
 split at h
 case isFalse h'=>exact absurd h h'
 rename_i h0
 split at h
 case isFalse=>exact absurd h (by decide)
 rename_i hi
 split at h
 case isTrue=>exact absurd h (by decide)
 rename_i hg
 obtain ⟨hp,h1⟩:=jw.1 h0
 obtain ⟨hf,h2⟩:=jw.1 h1
 obtain ⟨ht, -⟩:=jw.1 h2
 obtain ⟨np,gp⟩:=vo.1 hp
 obtain ⟨nt, -⟩:=vo.1 ht
 have hr:=X1 (t:=t) hi
 have hall : ∀ n,n ∈ qz t ++ (qz p).drop (qz f).length → kv n = true:=fun n hm=>by
  rcases List.mem_append.1 hm with hm|hm
  ·exact nt n hm
  ·exact np n (List.mem_of_mem_drop hm)
 have hnm:qz (t ++ p.drop f.length) = qz t ++ (qz p).drop (qz f).length:=by
  rw [← hr]
  exact wP (by simp [yP]) fun n hm=>JO (hall n hm)
 have hm:jo (t ++ p.drop f.length) = 0:=vo.2 ⟨by rw [hnm];exact hall,by simpa using hg⟩
 have hb:XV (t ++ p.drop f.length) t = true:=by
  rw [ZL,hnm,List.isPrefixOf_iff_prefix];exact List.prefix_append ..
 have hpre:f ++ p.drop f.length = p:=by
  simp only [XV,Bool.or_eq_true,decide_eq_true_eq,List.isPrefixOf_iff_prefix] at hi
  rcases hi with rfl|⟨s,rfl⟩
  ·simp
  ·rw [List.append_assoc,List.drop_left]
 have hback:f ++ (t ++ p.drop f.length).drop t.length = p:=by rw [List.drop_left];exact hpre
 refine ⟨?_,?_,hb,hback⟩
 ·unfold xY
  rw [if_pos (jw.2 ⟨hm,jw.2 ⟨ht,jw.2 ⟨hf,rfl⟩⟩⟩),if_pos hb,hback,gp];rfl
 ·exact jw.2 ⟨hm,jw.2 ⟨ht,rfl⟩⟩
end Go.Proofs.YtahbbnfmbohmmaaDoor
set_option linter.unusedSimpArgs false
set_option linter.unnecessarySimpa false
set_option linter.unusedVariables false
set_option maxHeartbeats 1000000
namespace Go.Proofs.YtahbbnfmbohmmaaDoor
open Go.Ab Go.RowKit
set_option maxRecDepth 10000
attribute [local irreducible] Awp jE qX qG Red qx Go.Ab.Fin qp Rz yI qE qB ResOk je qJ jx qy
structure RightE (t:List Ent):Prop where
 rise:yk vI t = true
 paths : ∀ x,x ∈ t → jo x.path = 0
 WE:t.length ≤ 400000
def Wi (t:List Ent) (c:Chg) (v:Int):Int:=if ¬ wn c = 0 then wn c else if ¬ VX t c = 0 then VX t c else VE t c v
theorem Jy {c:Chg} (h:wn c = 0):1 ≤ c.kind ∧ c.kind ≤ 4 ∧ jo c.path = 0 ∧ (c.kind = 3 → jo c.to = 0) ∧ Y5 c = 0:=by
 unfold wn at h
 split at h
 ·exact absurd h (by decide)
 ·split at h
  ·contradiction
  ·rename_i h1 h2
   split at h
   ·rename_i h3;exact absurd h h3.2
   ·rename_i h3
    refine ⟨by omega,by omega,by simpa using h2,fun h4=>?_,h⟩
    have h5:=fun e=>h3 ⟨h4,e⟩
    simpa using h5
theorem wO {t:List Ent} {x y:Ent} (h:y ∈ Qb t x):y = x ∨ y ∈ t:=by
 unfold Qb at h
 split at h
 ·rcases List.mem_append.1 h with h|h
  ·exact .inr (List.mem_of_mem_take h)
  ·rcases List.mem_append.1 h with h|h
   ·exact .inl (List.mem_singleton.1 h)
   ·exact .inr (List.mem_of_mem_drop h)
 ·rcases List.mem_append.1 h with h|h
  ·exact .inr (List.mem_of_mem_take h)
  ·rcases List.mem_append.1 h with h|h
   ·exact .inl (List.mem_singleton.1 h)
   ·exact .inr (List.mem_of_mem_drop h)
theorem wN : ∀ {l t:List Ent} {y:Ent},y ∈ l.foldl Qb t → y ∈ l ∨ y ∈ t
 | [],_,_,h => .inr h
 | x :: l,t,y,h=>by
   rcases wN (l:=l) (t:=Qb t x) h with h|h
   ·exact .inl (List.mem_cons_of_mem _ h)
   ·rcases wO h with rfl|h
    ·exact .inl (List.mem_cons_self ..)
    ·exact .inr h
theorem Jh {c:Chg} {v:Int} {x:Ent} (hx:jo x.path = 0) (h1:jo c.path = 0) (h2:jo c.to = 0) (hi:XV x.path c.path = true) (hg:vc (c.to ++ x.path.drop c.path.length) = false):jo (VY c v x).path = 0:=by
 have hm:=JS hx h1 h2 hi
 rw [hg,if_neg (by decide)] at hm
 have:=(Yj hm).2.1
 exact (jw.1 this).1
theorem ZC {t:List Ent} {c:Chg} {v:Int} (h:VE t c v = 0):kY t c = false ∧ (wu t c v).length ≤ 60:=by
 unfold VE at h
 split at h
 ·exact absurd h (by decide)
 ·split at h
  ·exact absurd h (by decide)
  ·rename_i h1 h2
   exact ⟨by simpa using h1,by omega⟩
theorem JD {t:List Ent} {c:Chg} {v:Int} (ht : ∀ x,x ∈ t → jo x.path = 0) (hce:wn c = 0) (hbad:kY t c = false) : ∀ x,x ∈ wu t c v → jo x.path = 0:=by
 obtain ⟨k1,k2,hpe,hto, -⟩:=Jy hce
 intro x hx
 unfold wu at hx
 split at hx
 ·rcases wO hx with rfl|h
  ·exact hpe
  ·exact ht x h
 ·split at hx
  ·rcases wO hx with rfl|h
   ·exact hpe
   ·exact ht x h
  ·split at hx
   ·exact ht x (List.mem_filter.1 hx).1
   ·have k3:c.kind = 3:=by omega
    rcases wN hx with h|h
    ·obtain ⟨y,hy,rfl⟩:=List.mem_map.1 h
     obtain ⟨hy1,hy2⟩:=List.mem_filter.1 hy
     simp only [kY,k3,decide_true,Bool.true_and,List.any_eq_false] at hbad
     exact Jh (ht y hy1) hpe (hto k3) hy2 (by simpa using hbad y hy)
    ·exact ht x (List.mem_filter.1 h).1
theorem QZ {t:List Ent} {c:Chg} {v:Int} (hs:yk vI t = true):yk vI (wu t c v) = true:=by
 unfold wu
 split
 ·exact vQ hs
 ·split
  ·exact vQ hs
  ·split
   ·exact zY hs
   ·exact zn (zY hs)
theorem RightE.done {t:List Ent} {c:Chg} {v:Int} (h:RightE t) (hr:Wi t c v = 0):RightE (wu t c v):=by
 unfold Wi at hr
 split at hr
 ·contradiction
 ·split at hr
  ·contradiction
  ·rename_i h1 h2
   obtain ⟨h3,h4⟩:=ZC hr
   exact ⟨QZ h.rise,JD h.paths (by simpa using h1) h3,by omega⟩
end Go.Proofs.YtahbbnfmbohmmaaDoor
set_option linter.unusedSimpArgs false
set_option linter.unnecessarySimpa false
set_option linter.unusedVariables false
set_option maxHeartbeats 1000000
namespace Go.Proofs.YtahbbnfmbohmmaaDoor
open Go.Ab Go.RowKit
set_option maxRecDepth 10000
attribute [local irreducible] Awp jE qX qG Red qx Go.Ab.Fin qp Rz yI qE qB ResOk je qJ jx qy
theorem Vb {α:Type} {a b:List α} {i:Nat} (h1:i < a.length) (h2:i < b.length) (h:a.take i = b.take i) (h3:a[i] = b[i]):a.take (i + 1) = b.take (i + 1):=by
 rw [List.take_succ_eq_append_getElem h1,List.take_succ_eq_append_getElem h2,h,h3]
end Go.Proofs.YtahbbnfmbohmmaaDoor
set_option linter.unusedSimpArgs false
set_option linter.unnecessarySimpa false
set_option linter.unusedVariables false
set_option maxHeartbeats 1000000
namespace Go.Proofs.YtahbbnfmbohmmaaDoor
open Go.Ab Go.RowKit
set_option maxRecDepth 10000
attribute [local irreducible] Awp jE qX qG Red qx Go.Ab.Fin qp Rz yI qE qB ResOk je qJ jx qy
theorem ZE:Kv C.P 97 = some [0,1,1,1,0]:=by kernel_rfl
theorem X7 (a b:Chg):Qe [0,1,1,1,0] a.row b.row = some (decide (a = b)):=by
 obtain ⟨a1,a2,a3,a4,a5⟩:=a
 obtain ⟨b1,b2,b3,b4,b5⟩:=b
 simp only [Chg.row,Qe,kj,str,Chg.mk.injEq,if_true,Option.some.injEq]
 by_cases h1:a1 = b1<;>by_cases h2:a2 = b2<;>by_cases h3:a3 = b3<;>by_cases h4:a4 = b4<;>by_cases h5:a5 = b5<;>simp [h1,h2,h3,h4,h5]
theorem Qm (a b:List Chg) (ha:a.length ≤ 1000000000) (hb:b.length ≤ 1000000000):kg C.P 36 [jz a,jz b] (.v (.bool (decide (a = b)))):=by
 have hma:(a.map Chg.row).length = a.length:=List.length_map ..
 have hmb:(b.map Chg.row).length = b.length:=List.length_map ..
 refine qe Tryd.func36 rfl _ Tryd.ntmps36 (Nat.le_of_ble_eq_true rfl) _ Tryd.results36 0 rfl rfl ?_
 repeat' (first|refine kf ?_|fail|((first|refine xsC ?_ ?_);all_goals (intro hc;have hp:=hc;try simp at hp;try (exfalso;omega)))|refine jl ?_ ?_)
 ·apply zT
  rfl
  have hne:¬ a = b:=fun e=>by subst e;simp at *
  simp [hne]
 have hab:a.length = b.length:=by simp at *;omega
 (refine Awp.red (z8 (ts:=[(0,jz a),(1,jz b),(5,.v (.int .i64 ((0:Nat):Int)))]) ?_) ?_;((repeat (first|exact qt|refine qV ?_|refine j8 ?_ ?_))))
 refine ya (fun n σ => ∃ i:Nat,i ≤ a.length ∧ n = a.length - i ∧ (a.take i = b.take i) ∧ σ = ⟨[(0,jz a),(1,jz b),(5,.v (.int .i64 (i:Int)))],[],C.nh⟩) a.length ⟨0,Nat.zero_le _,rfl,rfl,rfl⟩ ?_
 rintro n σ ⟨i,hi,rfl,hsofar,rfl⟩
 by_cases hlt:i < a.length
 ·have hlt2:i < b.length:=by omega
  have hr:=vK (f:=Chg.row) hlt
  have hr':=vK (f:=Chg.row) hlt2
  have hnx:=Vb hlt hlt2 hsofar
  repeat' (first|refine kf ?_|(first|(apply qo;apply VL;rfl;rfl;exact ZE;exact X7 _ _;(first|exact .inl ⟨rfl,rfl⟩|exact .inr ⟨rfl,rfl⟩);exact nle rfl))|((first|refine xsC ?_ ?_);all_goals (intro hc;have hp:=hc;try simp at hp;try (exfalso;omega)))|refine jl ?_ ?_)
  all_goals try (exfalso;omega)
  ·apply zT
   rfl
   have hne:¬ a = b:=fun e=>by subst e;simp at *
   simp [hne]
  ·refine ⟨a.length - (i + 1),_,by omega,z8 (ts:=[(0,jz a),(1,jz b),(5,.v (.int .i64 ((i + 1:Nat):Int)))]) ?_,i + 1,by omega,rfl,(hnx (by simp_all)),rfl⟩;((repeat (first|exact qt|refine qV ?_|refine j8 ?_ ?_)))
 obtain rfl:i = a.length:=by omega
 have he:a = b:=by rw [List.take_length] at hsofar;rw [hsofar,hab,List.take_length]
 repeat' (first|refine kf ?_|fail|((first|refine xsC ?_ ?_);all_goals (intro hc;have hp:=hc;try simp at hp;try (exfalso;omega)))|refine jl ?_ ?_)
 all_goals try (exfalso;omega)
 apply zT
 rfl
 simp [he]
end Go.Proofs.YtahbbnfmbohmmaaDoor
