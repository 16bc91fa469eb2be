import Derived.Test.YtahbbnfmbohmmaaDoorMz13
import Derived.RangeFuncNested
import Derived.RangeFuncBound
import Derived.RangeFuncCalls
import Derived.RangeFuncLeaves
import Derived.Shelf.Abstract
import Derived.Shelf.RegionOpen
import Derived.WalkKit
import Derived.OwnWalkIn
import Derived.TacticsInMore
import Derived.LoopNIn
import Derived.LoopIn
import Derived.Test.YtahbbnfmbohmmaaDoorMz5
import Derived.Test.YtahbbnfmbohmmaaDoorMz1
import Derived.Test.YtahbbnfmbohmmaaDoorMz2
set_option linter.unusedSimpArgs false
set_option linter.unnecessarySimpa false
namespace Go.Proofs.YtahbbnfmbohmmaaDoor
open Go.Ab Go.RowKit Go.Shelf
set_option maxRecDepth 10000
attribute [local go_sem] Oper.semAt_some
theorem kept {A B:World} {k:Nat} {o:Obj} (hg:A.grownBy B Option.none) (h:A.heap[k]? = some o):B.heap[k]? = some o:=(hg.block k (Array.getElem?_eq_some_iff.1 h).1 (by simp)).trans h
theorem _root_.Go.World.grownBy.weaken {A B:World} (h:A.grownBy B Option.none) (r:Option Nat):A.grownBy B r:=⟨h.os,h.tape,h.output,h.size,fun k hk _=>h.block k hk (by simp)⟩
theorem Kl {W:World} {b T:Nat} {v:Value} (h:W.heap[b]? = some (.cells #[v] T (0,0))) (u:Value):(W.setCell ⟨b,0,none⟩ u).heap[b]? = some (.cells #[u] T (0,0)):=by
 obtain ⟨hlt,hb⟩:=Array.getElem?_eq_some_iff.1 h
 show (W.heap.modify b _)[b]? = _
 rw [Array.getElem?_eq_getElem (by rw [Array.size_modify];exact hlt),Array.getElem_modify_self,hb]
 rfl
theorem YR (W:World) {b k:Nat} (u:Value) (h:k ≠ b):(W.setCell ⟨b,0,none⟩ u).heap[k]? = W.heap[k]?:=Below.heap_setCell W ⟨b,0,none⟩ u k h
end Go.Proofs.YtahbbnfmbohmmaaDoor
set_option linter.unusedSimpArgs false
set_option linter.unnecessarySimpa false
namespace Go.Proofs.YtahbbnfmbohmmaaDoor
open Go.Ab Go.RowKit Go.Shelf
set_option maxRecDepth 10000
attribute [local go_sem] Oper.semAt_some
abbrev mk (D:Nat):Deferred := { target := .collected D,args := #[] }
structure ChkW (w:World) (e:Int) (Ds:List Nat) (W:World):Prop where
 below:Below w.heap.size w W
 cell:W.heap[w.heap.size]? = some (.cells #[.int .i64 e] 25 (0,0))
 marks : ∀ D,D ∈ Ds → w.heap.size < D ∧ W.heap[D]? = some (.deferred (some []))
theorem ChkW.grown {w:World} {e:Int} {Ds:List Nat} {W W' : World} {row:Option Nat} (h:ChkW w e Ds W) (hg:W.grownBy W' row) (hr : ∀ r,row = some r → w.heap.size < r ∧ r ∉ Ds):ChkW w e Ds W':=by
 have hlt:=(Array.getElem?_eq_some_iff.1 h.cell).1
 refine ⟨h.below.grown hg (by omega) (fun k e=>by have:=(hr k e).1;omega),(hg.block _ hlt (fun e=>by have:=(hr _ e.symm).1;omega)).trans h.cell,fun D hD=>⟨(h.marks D hD).1,?_⟩⟩
 exact (hg.block D (Array.getElem?_eq_some_iff.1 (h.marks D hD).2).1 (fun e=>(hr _ e.symm).2 hD)).trans (h.marks D hD).2
theorem ChkW.lt {w:World} {e:Int} {Ds:List Nat} {W:World} (h:ChkW w e Ds W):w.heap.size < W.heap.size:=(Array.getElem?_eq_some_iff.1 h.cell).1
theorem ChkW.set {w:World} {e:Int} {Ds:List Nat} {W:World} (h:ChkW w e Ds W) (e' : Int):ChkW w e' Ds (W.setCell ⟨w.heap.size,0,Option.none⟩ (.int .i64 e')) :=
 ⟨h.below.setCell (Nat.le_refl _) _,Kl h.cell _,fun D hD=>⟨(h.marks D hD).1,(YR W _ (by have:=(h.marks D hD).1;omega)).trans (h.marks D hD).2⟩⟩
end Go.Proofs.YtahbbnfmbohmmaaDoor
set_option linter.unusedSimpArgs false
set_option linter.unnecessarySimpa false
set_option maxHeartbeats 1000000
namespace Go.Proofs.YtahbbnfmbohmmaaDoor
open Go.Ab Go.RowKit
set_option maxRecDepth 10000
attribute [local irreducible] Awp jE qY qK Red qA Go.Ab.Fin qp Rz yL qJ qE ResOk jl qL jA qB
end Go.Proofs.YtahbbnfmbohmmaaDoor
set_option linter.unusedSimpArgs false
set_option linter.unnecessarySimpa false
set_option maxHeartbeats 1000000
namespace Go.Proofs.YtahbbnfmbohmmaaDoor
open Go.Ab Go.RowKit
set_option maxRecDepth 10000
attribute [local irreducible] Awp jE qY qK Red qA Go.Ab.Fin qp Rz yL qJ qE ResOk jl qL jA qB
def vE (p f t:qj):Int:=if xz [p,f,t] = 0 then (if Zb p f then (if vI (t ++ p.drop f.length) then 2 else 0) else 5) else xz [p,f,t]
end Go.Proofs.YtahbbnfmbohmmaaDoor
set_option linter.unusedSimpArgs false
set_option linter.unnecessarySimpa false
set_option maxHeartbeats 1000000
namespace Go.Proofs.YtahbbnfmbohmmaaDoor
open Go.Ab Go.RowKit
set_option maxRecDepth 10000
attribute [local irreducible] Awp jE qY qK Red qA Go.Ab.Fin qp Rz yL qJ qE ResOk jl qL jA qB
end Go.Proofs.YtahbbnfmbohmmaaDoor
set_option linter.unusedSimpArgs false
set_option linter.unnecessarySimpa false
set_option maxHeartbeats 1000000
namespace Go.Proofs.YtahbbnfmbohmmaaDoor
open Go.Ab Go.RowKit
set_option maxRecDepth 10000
attribute [local irreducible] Awp jE qY qK Red qA Go.Ab.Fin qp Rz yL qJ qE ResOk jl qL jA qB
end Go.Proofs.YtahbbnfmbohmmaaDoor
set_option linter.unusedSimpArgs false
set_option linter.unnecessarySimpa false
set_option maxHeartbeats 1000000
namespace Go.Proofs.YtahbbnfmbohmmaaDoor
open Go.Ab Go.RowKit
set_option maxRecDepth 10000
attribute [local irreducible] Awp jE qY qK Red qA Go.Ab.Fin qp Rz yL qJ qE ResOk jl qL jA qB
def qam (p:qj) (i:Nat):Nat:=i - (W2 (p.take i)).length
def nsL (p:qj) (i:Nat):List qj:=(qN (p.take i)).dropLast
@[simp] theorem qar (p:qj):nsL p 0 = []:=rfl
@[simp] theorem W0 (p:qj):qam p 0 = 0:=rfl
@[simp] theorem WJ (s:qj):cellsOf (AV.v (str s)) = [AV.v (str s)]:=rfl
end Go.Proofs.YtahbbnfmbohmmaaDoor
set_option linter.unusedSimpArgs false
set_option linter.unnecessarySimpa false
set_option maxHeartbeats 1000000
namespace Go.Proofs.YtahbbnfmbohmmaaDoor
open Go.Ab Go.RowKit
set_option maxRecDepth 10000
attribute [local irreducible] Awp jE qY qK Red qA Go.Ab.Fin qp Rz yL qJ qE ResOk jl qL jA qB
end Go.Proofs.YtahbbnfmbohmmaaDoor
set_option linter.unusedSimpArgs false
set_option linter.unnecessarySimpa false
set_option maxHeartbeats 1000000
namespace Go.Proofs.YtahbbnfmbohmmaaDoor
open Go.Ab Go.RowKit
set_option maxRecDepth 10000
attribute [local irreducible] Awp jE qY qK Red qA Go.Ab.Fin qp Rz yL qJ qE ResOk jl qL jA qB
end Go.Proofs.YtahbbnfmbohmmaaDoor
set_option linter.unusedSimpArgs false
set_option linter.unnecessarySimpa false
set_option maxHeartbeats 1000000
namespace Go.Proofs.YtahbbnfmbohmmaaDoor
open Go.Ab Go.RowKit
set_option maxRecDepth 10000
attribute [local irreducible] Awp jE qY qK Red qA Go.Ab.Fin qp Rz yL qJ qE ResOk jl qL jA qB
end Go.Proofs.YtahbbnfmbohmmaaDoor
set_option linter.unusedSimpArgs false
set_option linter.unnecessarySimpa false
set_option maxHeartbeats 1000000
namespace Go.Proofs.YtahbbnfmbohmmaaDoor
open Go.Ab Go.RowKit
set_option maxRecDepth 10000
attribute [local irreducible] Awp jE qY qK Red qA Go.Ab.Fin qp Rz yL qJ qE ResOk jl qL jA qB
end Go.Proofs.YtahbbnfmbohmmaaDoor
set_option linter.unusedSimpArgs false
set_option linter.unnecessarySimpa false
set_option maxHeartbeats 1000000
namespace Go.Proofs.YtahbbnfmbohmmaaDoor
open Go.Ab Go.RowKit
set_option maxRecDepth 10000
attribute [local irreducible] Awp jE qY qK Red qA Go.Ab.Fin qp Rz yL qJ qE ResOk jl qL jA qB
end Go.Proofs.YtahbbnfmbohmmaaDoor
set_option linter.unusedSimpArgs false
set_option linter.unnecessarySimpa false
set_option maxHeartbeats 1000000
namespace Go.Proofs.YtahbbnfmbohmmaaDoor
open Go.Ab Go.RowKit
set_option maxRecDepth 10000
attribute [local irreducible] Awp jE qY qK Red qA Go.Ab.Fin qp Rz yL qJ qE ResOk jl qL jA qB
end Go.Proofs.YtahbbnfmbohmmaaDoor
set_option linter.unusedSimpArgs false
set_option linter.unnecessarySimpa false
set_option linter.unusedVariables false
set_option maxHeartbeats 1000000
namespace Go.Proofs.YtahbbnfmbohmmaaDoor
open Go.Ab Go.RowKit
set_option maxRecDepth 10000
attribute [local irreducible] Awp jE qY qK Red qA Go.Ab.Fin qp Rz yL qJ qE ResOk jl qL jA qB
def Vp (c:Chg):Int:=if (¬ c.kind = 3 ∧ ¬ c.to = []) ∨ (¬ c.kind = 2 ∧ ¬ c.text = []) then 1 else if 300 < c.text.length then 2 else if c.base < -1 ∨ 1000000 < c.base then 3 else 0
def Qn (c:Chg):Int :=
 if c.kind < 1 ∨ 4 < c.kind then 7
 else if ¬ jB c.path = 0 then jB c.path
 else if c.kind = 3 ∧ ¬ jB c.to = 0 then jB c.to
 else Vp c
end Go.Proofs.YtahbbnfmbohmmaaDoor
set_option linter.unusedSimpArgs false
set_option linter.unnecessarySimpa false
set_option linter.unusedVariables false
set_option maxHeartbeats 1000000
namespace Go.Proofs.YtahbbnfmbohmmaaDoor
open Go.Ab Go.RowKit
set_option maxRecDepth 10000
attribute [local irreducible] Awp jE qY qK Red qA Go.Ab.Fin qp Rz yL qJ qE ResOk jl qL jA qB
def Kk (c:Chg):qj:=if c.kind = 3 then c.to else c.path
def qaq (c:Chg) (x:Ent):Bool:=decide (c.base < x.ver) && Zb x.path c.path
def WZ (t:List Ent) (p:qj):Bool:=match t.find? (atP p) with|some x=>x.fold|none=>false
def QA (t:List Ent) (c:Chg):Int:=if c.kind = 1 then (if wL t c.path = true then 6 else 0) else if c.kind = 2 then (if WZ t c.path = true then 4 else 0) else (if wL t c.path = true then 0 else 5)
def WM (t:List Ent) (c:Chg):Int:=if c.kind = 3 then (if Zb c.to c.path = true then 3 else if wL t c.to = true then 6 else 0) else 0
def KI (t:List Ent) (c:Chg):Int:=if ¬ c.base = -1 ∧ t.any (qaq c) = true then 8 else 0
def Kp (t:List Ent) (c:Chg):Int :=
 if ¬ Jk t (Y1 (Kk c)) = 0 then Jk t (Y1 (Kk c))
 else if ¬ QA t c = 0 then QA t c
 else if ¬ WM t c = 0 then WM t c else KI t c
end Go.Proofs.YtahbbnfmbohmmaaDoor
set_option linter.unusedSimpArgs false
set_option linter.unnecessarySimpa false
set_option linter.unusedVariables false
set_option maxHeartbeats 1000000
namespace Go.Proofs.YtahbbnfmbohmmaaDoor
open Go.Ab Go.RowKit
set_option maxRecDepth 10000
attribute [local irreducible] Awp jE qY qK Red qA Go.Ab.Fin qp Rz yL qJ qE ResOk jl qL jA qB
def QQ (t:List Ent) (x:Ent):List Ent:=if wL t x.path = true then t.take (Q8 t x.path) ++ ([x] ++ t.drop (Q8 t x.path + 1)) else t.take (Q8 t x.path) ++ ([x] ++ t.drop (Q8 t x.path))
end Go.Proofs.YtahbbnfmbohmmaaDoor
set_option linter.unusedSimpArgs false
set_option linter.unnecessarySimpa false
set_option linter.unusedVariables false
set_option maxHeartbeats 1000000
namespace Go.Proofs.YtahbbnfmbohmmaaDoor
open Go.Ab Go.RowKit
set_option maxRecDepth 10000
attribute [local irreducible] Awp jE qY qK Red qA Go.Ab.Fin qp Rz yL qJ qE ResOk jl qL jA qB
def Ko (p:Ent → Bool) (t:List Ent):List Ent:=t.filter fun x => !p x
def inP (p:qj) (x:Ent):Bool:=Zb x.path p
end Go.Proofs.YtahbbnfmbohmmaaDoor
set_option linter.unusedSimpArgs false
set_option linter.unnecessarySimpa false
set_option linter.unusedVariables false
set_option maxHeartbeats 1000000
namespace Go.Proofs.YtahbbnfmbohmmaaDoor
open Go.Ab Go.RowKit
set_option maxRecDepth 10000
attribute [local irreducible] Awp jE qY qK Red qA Go.Ab.Fin qp Rz yL qJ qE ResOk jl qL jA qB
def Kq (c:Chg) (v:Int) (x:Ent):Ent:=⟨c.to ++ x.path.drop c.path.length,x.fold,x.text,if x.path = c.path then v else x.ver⟩
def W1 (t:List Ent) (c:Chg) (v:Int):List Ent:=(t.filter (inP c.path)).map (Kq c v)
def Qr (t:List Ent) (c:Chg) (v:Int):List Ent :=
 if c.kind = 1 then QQ t ⟨c.path,true,[],v⟩
 else if c.kind = 2 then QQ t ⟨c.path,false,c.text,v⟩
 else if c.kind = 4 then Ko (inP c.path) t
 else (W1 t c v).foldl QQ (Ko (inP c.path) t)
def wW (t:List Ent) (c:Chg):Bool:=decide (c.kind = 3) && (t.filter (inP c.path)).any fun x=>vI (c.to ++ x.path.drop c.path.length)
def Z8 (t:List Ent) (c:Chg) (v:Int):Int:=if wW t c = true then 2 else if 60 < (Qr t c v).length then 2 else 0
end Go.Proofs.YtahbbnfmbohmmaaDoor
set_option linter.unusedSimpArgs false
set_option linter.unnecessarySimpa false
set_option linter.unusedVariables false
namespace Go.Proofs.YtahbbnfmbohmmaaDoor
open Go.Op
theorem WI {a b:qj} (h:bytesLess a b = true):¬ a = b:=fun e=>by rw [e,WV] at h;cases h
theorem WW {a b:qj} (h1:bytesLess a b = false) (h2:¬ a = b):bytesLess b a = true:=by
 rcases Xt a b with ⟨h,_,_⟩|⟨h,_,_⟩|⟨h,_,_⟩
 ·rw [h] at h1;cases h1
 ·exact absurd h h2
 ·exact h
theorem KH (p:qj) : ∀ {t:List Ent},t.Pairwise (fun a b=>bytesLess a.path b.path = true) → ∃ A M Z,t = A ++ (M ++ Z) ∧ Q8 t p = A.length ∧ (∀ a,a ∈ A → bytesLess a.path p = true) ∧ (∀ z,z ∈ Z → bytesLess p z.path = true) ∧
  ((wL t p = true ∧ ∃ x,M = [x] ∧ x.path = p) ∨ (wL t p = false ∧ M = []))
 | [],_=>⟨[],[],[],rfl,rfl,nofun,nofun,.inr ⟨rfl,rfl⟩⟩
 | x :: l,h=>by
   obtain ⟨h1,h2⟩:=List.pairwise_cons.1 h
   by_cases hx:bytesLess x.path p = true
   ·obtain ⟨A,M,Z,rfl,hp,hA,hZ,hM⟩:=KH p h2
    have hp' : Q8 (x :: (A ++ (M ++ Z))) p = A.length + 1:=by
     simp only [Q8,List.takeWhile_cons,hx,if_true,List.length_cons] at hp ⊢;omega
    have hh:wL (x :: (A ++ (M ++ Z))) p = wL (A ++ (M ++ Z)) p:=by
     simp [wL,atP,WI hx]
    refine ⟨x :: A,M,Z,rfl,hp',fun a ha=>?_,hZ,by rw [hh];exact hM⟩
    rcases List.mem_cons.1 ha with rfl|ha
    ·exact hx
    ·exact hA a ha
   ·have hx:bytesLess x.path p = false:=by simpa using hx
    have hp:Q8 (x :: l) p = 0:=by simp [Q8,List.takeWhile_cons,hx]
    by_cases e:x.path = p
    ·subst e
     exact ⟨[],[x],l,rfl,hp,nofun,fun z hz=>h1 z hz,.inl ⟨by simp [wL,atP],x,rfl,rfl⟩⟩
    ·have hg:=WW hx e
     have hall : ∀ z,z ∈ x :: l → bytesLess p z.path = true:=fun z hz=>by
      rcases List.mem_cons.1 hz with rfl|hz
      ·exact hg
      ·exact Qk hg (h1 z hz)
     refine ⟨[],[],x :: l,rfl,hp,nofun,hall,.inr ⟨List.any_eq_false.2 fun z hz=>?_,rfl⟩⟩
     have:=WI (hall z hz)
     simp only [atP,decide_eq_true_eq]
     exact fun e=>this e.symm
theorem XM {t A M Z:List Ent} {x:Ent} (h:t = A ++ (M ++ Z)) (hp:Q8 t x.path = A.length) (hM:(wL t x.path = true ∧ ∃ y,M = [y] ∧ y.path = x.path) ∨ (wL t x.path = false ∧ M = [])):QQ t x = A ++ ([x] ++ Z):=by
 unfold QQ
 rw [hp]
 have h1:t.take A.length = A:=by rw [h];simp
 rw [h1]
 rcases hM with ⟨hh,y,rfl,_⟩|⟨hh,rfl⟩
 ·simp only [hh,if_true];rw [h];simp
 ·simp only [hh,Bool.false_eq_true,if_false];rw [h];simp
theorem zB {t:List Ent} {x:Ent} (hs:yP zo t = true):yP zo (QQ t x) = true:=by
 have hl:=xO.1 hs
 obtain ⟨A,M,Z,h,hp,hA,hZ,hM⟩:=KH x.path hl
 rw [XM h hp hM]
 refine xO.2 ?_
 have hsub:(A ++ Z).Sublist t:=by
  rw [h];exact List.Sublist.append_left (List.sublist_append_right _ _) _
 obtain ⟨pA,pZ,pAZ⟩:=List.pairwise_append.1 (hl.sublist hsub)
 refine List.pairwise_append.2 ⟨pA,List.pairwise_cons.2 ⟨fun z hz=>hZ z hz,pZ⟩,fun a ha b hb=>?_⟩
 rcases List.mem_cons.1 hb with rfl|hb
 ·exact hA a ha
 ·exact pAZ a ha b hb
theorem kI {p:Ent → Bool} {t:List Ent} (hs:yP zo t = true):yP zo (Ko p t) = true:=xO.2 ((xO.1 hs).sublist List.filter_sublist)
theorem zV : ∀ {l t:List Ent},yP zo t = true → yP zo (l.foldl QQ t) = true
 | [],_,h=>h
 | x :: l,t,h=>zV (l:=l) (zB h)
theorem YV {p f t:qj} (hp:jB p = 0) (hf:jB f = 0) (ht:jB t = 0) (hi:Zb p f = true):vE p f t = if vI (t ++ p.drop f.length) = true then 2 else 0:=by
 unfold vE
 rw [if_pos (by simp [xz,hp,hf,ht]),if_pos hi]
end Go.Proofs.YtahbbnfmbohmmaaDoor
set_option linter.unusedSimpArgs false
set_option linter.unnecessarySimpa false
set_option linter.unusedVariables false
namespace Go.Proofs.YtahbbnfmbohmmaaDoor
open Go.Op
end Go.Proofs.YtahbbnfmbohmmaaDoor
set_option linter.unusedSimpArgs false
set_option linter.unnecessarySimpa false
set_option linter.unusedVariables false
set_option maxHeartbeats 1000000
namespace Go.Proofs.YtahbbnfmbohmmaaDoor
open Go.Ab Go.RowKit
set_option maxRecDepth 10000
attribute [local irreducible] Awp jE qY qK Red qA Go.Ab.Fin qp Rz yL qJ qE ResOk jl qL jA qB
end Go.Proofs.YtahbbnfmbohmmaaDoor
set_option linter.unusedSimpArgs false
set_option linter.unnecessarySimpa false
namespace Go.Proofs.YtahbbnfmbohmmaaDoor
theorem XG {s:qj}:k7 s = true ↔ s ≠ [] ∧ s.length ≤ 20 ∧ s ≠ [46] ∧ s ≠ [46,46] ∧ s.head? ≠ some 32 ∧ s.getLast? ≠ some 32 ∧ ∀ c,c ∈ s → okB c = true:=by
 simp [k7,and_assoc]
theorem YU {s:qj} (h:k7 s = true):(47:UInt8) ∉ s:=fun hm=>by
 have:=(XG.1 h).2.2.2.2.2.2 47 hm
 exact absurd this (by decide)
theorem vZ {p:qj}:jB p = 0 ↔ (∀ n,n ∈ qN p → k7 n = true) ∧ vI p = false:=by
 unfold jB
 constructor
 ·intro h
  split at h
  ·rename_i h1
   split at h
   ·exact absurd h (by decide)
   ·rename_i h2
    exact ⟨List.all_eq_true.1 h1,by simpa using h2⟩
  ·exact absurd h (by decide)
 ·rintro ⟨h1,h2⟩
  rw [if_pos (List.all_eq_true.2 h1),h2];rfl
theorem jJ {p:qj} {l:List qj}:xz (p :: l) = 0 ↔ jB p = 0 ∧ xz l = 0:=by
 show (if jB p = 0 then xz l else jB p) = 0 ↔ _
 split
 ·rename_i h;simp [h]
 ·rename_i h;simp [h]
theorem Xs {p f t:qj} (h:vE p f t = 0) :
  vE (t ++ p.drop f.length) t f = 0 ∧ xz [t ++ p.drop f.length,t] = 0 ∧ Zb (t ++ p.drop f.length) t = true ∧ f ++ (t ++ p.drop f.length).drop t.length = p:=by
 unfold vE at h
 split at h
 case isFalse h'=>exact absurd h h'
 rename_i h0
 split at h
 case isFalse=>exact absurd h (by decide)
 rename_i hi
 split at h
 case isTrue=>exact absurd h (by decide)
 rename_i hg
 obtain ⟨hp,h1⟩:=jJ.1 h0
 obtain ⟨hf,h2⟩:=jJ.1 h1
 obtain ⟨ht, -⟩:=jJ.1 h2
 obtain ⟨np,gp⟩:=vZ.1 hp
 obtain ⟨nt, -⟩:=vZ.1 ht
 have hr:=Zi (t:=t) hi
 have hall : ∀ n,n ∈ qN t ++ (qN p).drop (qN f).length → k7 n = true:=fun n hm=>by
  rcases List.mem_append.1 hm with hm|hm
  ·exact nt n hm
  ·exact np n (List.mem_of_mem_drop hm)
 have hnm:qN (t ++ p.drop f.length) = qN t ++ (qN p).drop (qN f).length:=by
  rw [← hr]
  exact QG (by simp [xt]) fun n hm=>YU (hall n hm)
 have hm:jB (t ++ p.drop f.length) = 0:=vZ.2 ⟨by rw [hnm];exact hall,by simpa using hg⟩
 have hb:Zb (t ++ p.drop f.length) t = true:=by
  rw [Wi,hnm,List.isPrefixOf_iff_prefix];exact List.prefix_append ..
 have hpre:f ++ p.drop f.length = p:=by
  simp only [Zb,Bool.or_eq_true,decide_eq_true_eq,List.isPrefixOf_iff_prefix] at hi
  rcases hi with rfl|⟨s,rfl⟩
  ·simp
  ·rw [List.append_assoc,List.drop_left]
 have hback:f ++ (t ++ p.drop f.length).drop t.length = p:=by rw [List.drop_left];exact hpre
 refine ⟨?_,?_,hb,hback⟩
 ·unfold vE
  rw [if_pos (jJ.2 ⟨hm,jJ.2 ⟨ht,jJ.2 ⟨hf,rfl⟩⟩⟩),if_pos hb,hback,gp];rfl
 ·exact jJ.2 ⟨hm,jJ.2 ⟨ht,rfl⟩⟩
end Go.Proofs.YtahbbnfmbohmmaaDoor
set_option linter.unusedSimpArgs false
set_option linter.unnecessarySimpa false
set_option linter.unusedVariables false
set_option maxHeartbeats 1000000
namespace Go.Proofs.YtahbbnfmbohmmaaDoor
open Go.Ab Go.RowKit
set_option maxRecDepth 10000
attribute [local irreducible] Awp jE qY qK Red qA Go.Ab.Fin qp Rz yL qJ qE ResOk jl qL jA qB
structure RightE (t:List Ent):Prop where
 rise:yP zo t = true
 paths : ∀ x,x ∈ t → jB x.path = 0
 few:t.length ≤ 400000
def qaA (t:List Ent) (c:Chg) (v:Int):Int:=if ¬ Qn c = 0 then Qn c else if ¬ Kp t c = 0 then Kp t c else Z8 t c v
theorem YD {c:Chg} (h:Qn c = 0):1 ≤ c.kind ∧ c.kind ≤ 4 ∧ jB c.path = 0 ∧ (c.kind = 3 → jB c.to = 0) ∧ Vp c = 0:=by
 unfold Qn at h
 split at h
 ·exact absurd h (by decide)
 ·split at h
  ·contradiction
  ·rename_i h1 h2
   split at h
   ·rename_i h3;exact absurd h h3.2
   ·rename_i h3
    refine ⟨by omega,by omega,by simpa using h2,fun h4=>?_,h⟩
    have h5:=fun e=>h3 ⟨h4,e⟩
    simpa using h5
theorem QF {t:List Ent} {x y:Ent} (h:y ∈ QQ t x):y = x ∨ y ∈ t:=by
 unfold QQ at h
 split at h
 ·rcases List.mem_append.1 h with h|h
  ·exact .inr (List.mem_of_mem_take h)
  ·rcases List.mem_append.1 h with h|h
   ·exact .inl (List.mem_singleton.1 h)
   ·exact .inr (List.mem_of_mem_drop h)
 ·rcases List.mem_append.1 h with h|h
  ·exact .inr (List.mem_of_mem_take h)
  ·rcases List.mem_append.1 h with h|h
   ·exact .inl (List.mem_singleton.1 h)
   ·exact .inr (List.mem_of_mem_drop h)
theorem QE : ∀ {l t:List Ent} {y:Ent},y ∈ l.foldl QQ t → y ∈ l ∨ y ∈ t
 | [],_,_,h => .inr h
 | x :: l,t,y,h=>by
   rcases QE (l:=l) (t:=QQ t x) h with h|h
   ·exact .inl (List.mem_cons_of_mem _ h)
   ·rcases QF h with rfl|h
    ·exact .inl (List.mem_cons_self ..)
    ·exact .inr h
theorem Yb {c:Chg} {v:Int} {x:Ent} (hx:jB x.path = 0) (h1:jB c.path = 0) (h2:jB c.to = 0) (hi:Zb x.path c.path = true) (hg:vI (c.to ++ x.path.drop c.path.length) = false):jB (Kq c v x).path = 0:=by
 have hm:=YV hx h1 h2 hi
 rw [hg,if_neg (by decide)] at hm
 have:=(Xs hm).2.1
 exact (jJ.1 this).1
theorem K7 {t:List Ent} {c:Chg} {v:Int} (h:Z8 t c v = 0):wW t c = false ∧ (Qr t c v).length ≤ 60:=by
 unfold Z8 at h
 split at h
 ·exact absurd h (by decide)
 ·split at h
  ·exact absurd h (by decide)
  ·rename_i h1 h2
   exact ⟨by simpa using h1,by omega⟩
theorem YI {t:List Ent} {c:Chg} {v:Int} (ht : ∀ x,x ∈ t → jB x.path = 0) (hce:Qn c = 0) (hbad:wW t c = false) : ∀ x,x ∈ Qr t c v → jB x.path = 0:=by
 obtain ⟨k1,k2,hpe,hto, -⟩:=YD hce
 intro x hx
 unfold Qr at hx
 split at hx
 ·rcases QF hx with rfl|h
  ·exact hpe
  ·exact ht x h
 ·split at hx
  ·rcases QF hx with rfl|h
   ·exact hpe
   ·exact ht x h
  ·split at hx
   ·exact ht x (List.mem_filter.1 hx).1
   ·have k3:c.kind = 3:=by omega
    rcases QE hx with h|h
    ·obtain ⟨y,hy,rfl⟩:=List.mem_map.1 h
     obtain ⟨hy1,hy2⟩:=List.mem_filter.1 hy
     simp only [wW,k3,decide_true,Bool.true_and,List.any_eq_false] at hbad
     exact Yb (ht y hy1) hpe (hto k3) hy2 (by simpa using hbad y hy)
    ·exact ht x (List.mem_filter.1 h).1
theorem JR {t:List Ent} {c:Chg} {v:Int} (hs:yP zo t = true):yP zo (Qr t c v) = true:=by
 unfold Qr
 split
 ·exact zB hs
 ·split
  ·exact zB hs
  ·split
   ·exact kI hs
   ·exact zV (kI hs)
theorem RightE.done {t:List Ent} {c:Chg} {v:Int} (h:RightE t) (hr:qaA t c v = 0):RightE (Qr t c v):=by
 unfold qaA at hr
 split at hr
 ·contradiction
 ·split at hr
  ·contradiction
  ·rename_i h1 h2
   obtain ⟨h3,h4⟩:=K7 hr
   exact ⟨JR h.rise,YI h.paths (by simpa using h1) h3,by omega⟩
end Go.Proofs.YtahbbnfmbohmmaaDoor
set_option linter.unusedSimpArgs false
set_option linter.unnecessarySimpa false
set_option linter.unusedVariables false
set_option maxHeartbeats 1000000
namespace Go.Proofs.YtahbbnfmbohmmaaDoor
open Go.Ab Go.RowKit
set_option maxRecDepth 10000
attribute [local irreducible] Awp jE qY qK Red qA Go.Ab.Fin qp Rz yL qJ qE ResOk jl qL jA qB
theorem Wa:Wb C.P 76 = some [1,2,1,0]:=by kernel_rfl
theorem Zp (a b:Ent):kQ [1,2,1,0] a.row b.row = some (decide (a = b)):=by
 obtain ⟨a1,a2,a3,a4⟩:=a
 obtain ⟨b1,b2,b3,b4⟩:=b
 simp only [Ent.row,kQ,ka,str,Ent.mk.injEq,if_true,Option.some.injEq]
 by_cases h1:a1 = b1<;>by_cases h2:a2 = b2<;>by_cases h3:a3 = b3<;>by_cases h4:a4 = b4<;>simp [h1,h2,h3,h4]
theorem wo {α:Type} {a b:List α} {i:Nat} (h1:i < a.length) (h2:i < b.length) (h:a.take i = b.take i) (h3:a[i] = b[i]):a.take (i + 1) = b.take (i + 1):=by
 rw [List.take_succ_eq_append_getElem h1,List.take_succ_eq_append_getElem h2,h,h3]
theorem Q2 (a b:List Ent) (ha:a.length ≤ 1000000000) (hb:b.length ≤ 1000000000):zb C.P 64 [jX a,jX b] (.v (.bool (decide (a = b)))):=by
 have hma:(a.map Ent.row).length = a.length:=List.length_map ..
 have hmb:(b.map Ent.row).length = b.length:=List.length_map ..
 refine qf Tryd.func64 rfl _ Tryd.ntmps64 (Nat.le_of_ble_eq_true rfl) _ Tryd.results64 0 rfl rfl ?_
 repeat' (first|refine zi ?_|fail|((first|refine xsC ?_ ?_);all_goals (intro hc;have hp:=hc;try simp at hp;try (exfalso;omega)))|refine jm ?_ ?_)
 ·apply yx
  rfl
  have hne:¬ a = b:=fun e=>by subst e;simp at *
  simp [hne]
 have hab:a.length = b.length:=by simp at *;omega
 (refine Awp.red (vH (ts:=[(0,jX a),(1,jX b),(5,.v (.int .i64 ((0:Nat):Int)))]) ?_) ?_;((repeat (first|exact ql|refine qZ ?_|refine yf ?_ ?_))))
 refine jW (fun n σ => ∃ i:Nat,i ≤ a.length ∧ n = a.length - i ∧ (a.take i = b.take i) ∧ σ = ⟨[(0,jX a),(1,jX b),(5,.v (.int .i64 (i:Int)))],[],C.nh⟩) a.length ⟨0,Nat.zero_le _,rfl,rfl,rfl⟩ ?_
 rintro n σ ⟨i,hi,rfl,hsofar,rfl⟩
 by_cases hlt:i < a.length
 ·have hlt2:i < b.length:=by omega
  have hr:=xG (f:=Ent.row) hlt
  have hr':=xG (f:=Ent.row) hlt2
  have hnx:=wo hlt hlt2 hsofar
  repeat' (first|refine zi ?_|(first|(apply qt;apply YO;rfl;rfl;exact Wa;exact Zp _ _;(first|exact .inl ⟨rfl,rfl⟩|exact .inr ⟨rfl,rfl⟩);exact nle rfl))|((first|refine xsC ?_ ?_);all_goals (intro hc;have hp:=hc;try simp at hp;try (exfalso;omega)))|refine jm ?_ ?_)
  all_goals try (exfalso;omega)
  ·apply yx
   rfl
   have hne:¬ a = b:=fun e=>by subst e;simp at *
   simp [hne]
  ·refine ⟨a.length - (i + 1),_,by omega,vH (ts:=[(0,jX a),(1,jX b),(5,.v (.int .i64 ((i + 1:Nat):Int)))]) ?_,i + 1,by omega,rfl,(hnx (by simp_all)),rfl⟩;((repeat (first|exact ql|refine qZ ?_|refine yf ?_ ?_)))
 obtain rfl:i = a.length:=by omega
 have he:a = b:=by rw [List.take_length] at hsofar;rw [hsofar,hab,List.take_length]
 repeat' (first|refine zi ?_|fail|((first|refine xsC ?_ ?_);all_goals (intro hc;have hp:=hc;try simp at hp;try (exfalso;omega)))|refine jm ?_ ?_)
 all_goals try (exfalso;omega)
 apply yx
 rfl
 simp [he]
end Go.Proofs.YtahbbnfmbohmmaaDoor
set_option linter.unusedSimpArgs false
set_option linter.unnecessarySimpa false
set_option linter.unusedVariables false
set_option maxHeartbeats 1000000
namespace Go.Proofs.YtahbbnfmbohmmaaDoor
open Go.Ab Go.RowKit
set_option maxRecDepth 10000
attribute [local irreducible] Awp jE qY qK Red qA Go.Ab.Fin qp Rz yL qJ qE ResOk jl qL jA qB
theorem K9:Wb C.P 97 = some [0,1,1,1,0]:=by kernel_rfl
theorem Zo (a b:Chg):kQ [0,1,1,1,0] a.row b.row = some (decide (a = b)):=by
 obtain ⟨a1,a2,a3,a4,a5⟩:=a
 obtain ⟨b1,b2,b3,b4,b5⟩:=b
 simp only [Chg.row,kQ,ka,str,Chg.mk.injEq,if_true,Option.some.injEq]
 by_cases h1:a1 = b1<;>by_cases h2:a2 = b2<;>by_cases h3:a3 = b3<;>by_cases h4:a4 = b4<;>by_cases h5:a5 = b5<;>simp [h1,h2,h3,h4,h5]
theorem zR (a b:List Chg) (ha:a.length ≤ 1000000000) (hb:b.length ≤ 1000000000):zb C.P 36 [ya a,ya b] (.v (.bool (decide (a = b)))):=by
 have hma:(a.map Chg.row).length = a.length:=List.length_map ..
 have hmb:(b.map Chg.row).length = b.length:=List.length_map ..
 refine qf Tryd.func36 rfl _ Tryd.ntmps36 (Nat.le_of_ble_eq_true rfl) _ Tryd.results36 0 rfl rfl ?_
 repeat' (first|refine zi ?_|fail|((first|refine xsC ?_ ?_);all_goals (intro hc;have hp:=hc;try simp at hp;try (exfalso;omega)))|refine jm ?_ ?_)
 ·apply yx
  rfl
  have hne:¬ a = b:=fun e=>by subst e;simp at *
  simp [hne]
 have hab:a.length = b.length:=by simp at *;omega
 (refine Awp.red (vH (ts:=[(0,ya a),(1,ya b),(5,.v (.int .i64 ((0:Nat):Int)))]) ?_) ?_;((repeat (first|exact ql|refine qZ ?_|refine yf ?_ ?_))))
 refine jW (fun n σ => ∃ i:Nat,i ≤ a.length ∧ n = a.length - i ∧ (a.take i = b.take i) ∧ σ = ⟨[(0,ya a),(1,ya b),(5,.v (.int .i64 (i:Int)))],[],C.nh⟩) a.length ⟨0,Nat.zero_le _,rfl,rfl,rfl⟩ ?_
 rintro n σ ⟨i,hi,rfl,hsofar,rfl⟩
 by_cases hlt:i < a.length
 ·have hlt2:i < b.length:=by omega
  have hr:=xG (f:=Chg.row) hlt
  have hr':=xG (f:=Chg.row) hlt2
  have hnx:=wo hlt hlt2 hsofar
  repeat' (first|refine zi ?_|(first|(apply qt;apply YO;rfl;rfl;exact K9;exact Zo _ _;(first|exact .inl ⟨rfl,rfl⟩|exact .inr ⟨rfl,rfl⟩);exact nle rfl))|((first|refine xsC ?_ ?_);all_goals (intro hc;have hp:=hc;try simp at hp;try (exfalso;omega)))|refine jm ?_ ?_)
  all_goals try (exfalso;omega)
  ·apply yx
   rfl
   have hne:¬ a = b:=fun e=>by subst e;simp at *
   simp [hne]
  ·refine ⟨a.length - (i + 1),_,by omega,vH (ts:=[(0,ya a),(1,ya b),(5,.v (.int .i64 ((i + 1:Nat):Int)))]) ?_,i + 1,by omega,rfl,(hnx (by simp_all)),rfl⟩;((repeat (first|exact ql|refine qZ ?_|refine yf ?_ ?_)))
 obtain rfl:i = a.length:=by omega
 have he:a = b:=by rw [List.take_length] at hsofar;rw [hsofar,hab,List.take_length]
 repeat' (first|refine zi ?_|fail|((first|refine xsC ?_ ?_);all_goals (intro hc;have hp:=hc;try simp at hp;try (exfalso;omega)))|refine jm ?_ ?_)
 all_goals try (exfalso;omega)
 apply yx
 rfl
 simp [he]
end Go.Proofs.YtahbbnfmbohmmaaDoor
