import Derived.Test.YtnhpclmbhbblbaaGreatDoorMz9
import Derived.RangeFuncNested
import Derived.RangeFuncBound
import Derived.RangeFuncCalls
import Derived.RangeFuncLeaves
import Derived.Shelf.Abstract
import Derived.Shelf.RegionOpen
import Derived.WalkKit
import Derived.OwnWalkIn
import Derived.TacticsInMore
import Derived.LoopNIn
import Derived.LoopIn
import Derived.Test.YtnhpclmbhbblbaaGreatDoorMz5
import Derived.Test.YtnhpclmbhbblbaaGreatDoorMz1
set_option linter.unusedSimpArgs false
set_option linter.unnecessarySimpa false
namespace Go.Proofs.YtnhpclmbhbblbaaGreatDoor
open Go.Ab Go.RowKit Go.Shelf
set_option maxRecDepth 10000
attribute [local go_sem] Oper.semAt_some
abbrev xr (s:qx):Value := .string ⟨s.toArray⟩
abbrev wI (b:Nat):Value := .pointer (some ⟨b,0,none⟩)
theorem XS (p:qx) (w:World):Calls Tryz.prog 158 #[xr p,xr vG,.int .i64 0] w fun e w' =>
  e = .returned (.func (.func 176) #[] #[wI (w.heap.size + 1),wI w.heap.size,wI (w.heap.size + 2)]) ∧ w' = ((w.alloc (.cells #[xr p] 9)).alloc (.cells #[xr vG] 9)).alloc (.cells #[.int .i64 0] 3):=by
 go_enter Tryz.func158,Tryz.ntmps158
 go_wp2
 go_ret
 refine ⟨rfl,rfl⟩
theorem Xc (p:qx) (w:World):Calls Tryz.prog 131 #[xr p,xr vG] w fun e w' =>
  e = .returned (.func (.func 176) #[] #[wI (w.heap.size + 1),wI w.heap.size,wI (w.heap.size + 2)]) ∧ w' = ((w.alloc (.cells #[xr p] 9)).alloc (.cells #[xr vG] 9)).alloc (.cells #[.int .i64 0] 3):=by
 go_enter Tryz.func131,Tryz.ntmps131
 go_wp2_with (go_at_call 158;refine (XS _ _).mono ?_;rintro e w' ⟨rfl,rfl⟩)
 go_ret
 refine ⟨rfl,rfl⟩
theorem YA (s:qx) (c:UInt8) (w:World):Calls Tryz.prog 107 #[xr s,.int .u8 (c.toNat:Int)] w fun e w'=>e = .returned (.int .i64 (Lib.indexByte s c)) ∧ w' = w:=by
 go_enter Tryz.func107,Tryz.ntmps107
 go_wp2
 rw [run_callFunc_extern Tryz.func130 (by kernel_rfl) (by kernel_rfl) (by kernel_rfl) (e:=Extern.BytealgIndexByte.indexByte) (by kernel_rfl),Lib.run_indexByteString]
 simp only [Result.andThen]
 rw [Oper.upon_value]
 go_wp2
 go_ret
 refine ⟨?_,rfl⟩
 simp
theorem Zq (s:qx) (w:World):Calls Tryz.prog 180 #[xr s,xr vG] w fun e w'=>e = .returned (.int .i64 (Lib.indexByte s 47)) ∧ w' = w:=by
 show Calls _ _ #[xr s,.string ⟨#[47]⟩] w _
 go_enter Tryz.func180,Tryz.ntmps180
 go_wp2_with (go_at_call 107;refine (YA s 47 _).mono ?_;rintro e w' ⟨rfl,rfl⟩)
 ·go_ret
  refine ⟨?_,rfl⟩
  have e:([47]:qx) = s:=by first|assumption|(simp_all;done)
  subst e
  rfl
 ·go_ret
  exact ⟨rfl,rfl⟩
theorem YX (s:qx) (w:World):Calls Tryz.prog 164 #[xr s,xr vG] w fun e w'=>e = .returned (.int .i64 (Lib.indexByte s 47)) ∧ w.grownBy w' none:=by
 go_enter Tryz.func164,Tryz.ntmps164
 go_wp2_with (go_at_call 180;refine (Zq _ _).mono ?_;rintro e w' ⟨rfl,rfl⟩)
 go_ret
 exact ⟨rfl,⟨rfl,rfl,rfl,Nat.le_refl _,fun _ _ _=>rfl⟩⟩
theorem Vo (s:qx):(Lib.indexByte s 47 = -1 ∧ (47:UInt8) ∉ s) ∨ ∃ a b,s = a ++ 47 :: b ∧ (47:UInt8) ∉ a ∧ Lib.indexByte s 47 = a.length:=by
 induction s with
 | nil=>exact .inl ⟨rfl,by simp⟩
 | cons c s ih =>
   by_cases hc:c = 47
   ·subst hc;exact .inr ⟨[],s,rfl,by simp,by simp [Lib.indexByte]⟩
   ·rcases ih with ⟨h1,h2⟩|⟨a,b,h1,h2,h3⟩
    ·exact .inl ⟨by simp [Lib.indexByte,hc,h1],by simp only [List.mem_cons,not_or];exact ⟨fun e=>hc e.symm,h2⟩⟩
    ·refine .inr ⟨c :: a,b,by simp [h1],by simp only [List.mem_cons,not_or];exact ⟨fun e=>hc e.symm,h2⟩,?_⟩
     have:¬ Lib.indexByte s 47 = -1:=by omega
     simp [Lib.indexByte,hc,this,h3]
theorem j8 {W:World} {b T:Nat} {v:Value} (h:W.heap[b]? = some (.cells #[v] T (0,0))):W.cell? ⟨b,0,none⟩ = some v ∧ W.frozen? ⟨b,0,none⟩ = false:=by simp [World.cell?,World.frozen?,h]
theorem kept {A B:World} {k:Nat} {o:Obj} (hg:A.grownBy B Option.none) (h:A.heap[k]? = some o):B.heap[k]? = some o:=(hg.block k (Array.getElem?_eq_some_iff.1 h).1 (by simp)).trans h
theorem _root_.Go.World.grownBy.weaken {A B:World} (h:A.grownBy B Option.none) (r:Option Nat):A.grownBy B r:=⟨h.os,h.tape,h.output,h.size,fun k hk _=>h.block k hk (by simp)⟩
theorem wrap64_in {x:Int} (h1:0 ≤ x) (h2:x ≤ 9223372036854775807):wrap64 x = x:=IntWalk.wrap64_in x ⟨by omega,by omega⟩
theorem kE (l:List UInt8) (a b:Nat):ByteArray.extract ⟨l.toArray⟩ a b = ⟨((l.take b).drop a).toArray⟩:=by
 have h:(ByteArray.extract ⟨l.toArray⟩ a b).data = ((l.take b).drop a).toArray:=by simp [List.drop_take]
 calc ByteArray.extract ⟨l.toArray⟩ a b = ⟨(ByteArray.extract ⟨l.toArray⟩ a b).data⟩:=rfl
  _ = _:=by rw [h]
theorem heap_set {W:World} {b T:Nat} {v:Value} (h:W.heap[b]? = some (.cells #[v] T (0,0))) (u:Value):(W.setCell ⟨b,0,none⟩ u).heap[b]? = some (.cells #[u] T (0,0)):=by
 obtain ⟨hlt,hb⟩:=Array.getElem?_eq_some_iff.1 h
 show (W.heap.modify b _)[b]? = _
 rw [Array.getElem?_eq_getElem (by rw [Array.size_modify];exact hlt),Array.getElem_modify_self,hb]
 rfl
theorem zm (W:World) {b k:Nat} (u:Value) (h:k ≠ b):(W.setCell ⟨b,0,none⟩ u).heap[k]? = W.heap[k]?:=Below.heap_setCell W ⟨b,0,none⟩ u k h
def WF (S:Nat) (w:World):Nat:=match w.cell? ⟨S,0,none⟩ with|some (.string s)=>s.size|_=>0
theorem ZH (n:Nat) (hn:1 ≤ n) (p:qx) (hp:p.length ≤ 140737488355328) (w0:World) (S:Nat) (h0:w0.heap[S]? = some (.cells #[xr p] 9 (0,0))) (h1:w0.heap[S + 1]? = some (.cells #[xr vG] 9 (0,0))) (h2:w0.heap[S + 2]? = some (.cells #[.int .i64 0] 3 (0,0))) :
  X3 Fence.wide n Tryz.prog 176 #[wI (S + 1),wI S,wI (S + 2)] S (qg p) w0:=by
 intro l J Jx W hW hJ hJx hY hJ0
 have hS:W.heap[S]? = some (.cells #[xr p] 9 (0,0)):=(hW S (by omega) (by omega)).trans h0
 have hS1:W.heap[S + 1]? = some (.cells #[xr vG] 9 (0,0)):=(hW (S + 1) (by omega) (by omega)).trans h1
 have hS2:W.heap[S + 2]? = some (.cells #[.int .i64 0] 3 (0,0)):=(hW (S + 2) (by omega) (by omega)).trans h2
 have c1:=(j8 hS1).1
 have hsl:List.length vG = 1:=rfl
 refine callsIn_of_wp Tryz.func176 rfl trivial ?_ rfl
 simp only [Tryz.ntmps176,List.size_toArray,List.length_cons,List.length_nil,Nat.reduceAdd,Nat.reduceSub,Array.replicate_succ,Array.replicate_zero,List.push_toArray,List.append_toArray,List.cons_append,List.nil_append]
 gi_wp2
 gi_loopw [7] (fun _ wr => ∃ (pre:List qx) (rest:qx),qg p = pre ++ qg rest ∧ rest.length ≤ p.length ∧ wr.heap[S]? = some (.cells #[xr rest] 9 (0,0)) ∧ wr.heap[S + 1]? = some (.cells #[xr vG] 9 (0,0)) ∧ wr.heap[S + 2]? = some (.cells #[.int .i64 0] 3 (0,0)) ∧ J pre wr) (fun _ wr=>WF S wr)
 case atStart=>exact ⟨[],p,rfl,Nat.le_refl _,hS,hS1,hS2,hJ0⟩
 case round =>
  obtain ⟨pre,rest,hx,hlen,hb,hb1,hb2,hJs⟩:=hrel
  have c0:=(j8 hb).1
  have c1:=(j8 hb1).1
  have c2:=(j8 hb2).1
  rcases Vo rest with ⟨hm,hfree⟩|⟨a,b,rfl,hfa,hi⟩
  ·have hpre:pre ++ [rest] <+: qg p:=by rw [hx,jO hfree];exact List.prefix_refl _
   gi_wp2_with (refine ⟨trivial,?_⟩;gi_at_call 164;refine (callsIn_wide.2 (YX _ _)).mono ?_;rintro e w1 ⟨rfl,hg⟩;have hd0:=kept hg hb;have hd1:=kept hg hb1;have hd2:=kept hg hb2;have d0:=(j8 hd0).1;have d1:=(j8 hd1).1;have d2:=(j8 hd2).1;obtain ⟨fn,tmps,assign,body,hy,hR⟩:=hY pre rest w1 (hJ _ _ _ hJs (hg.weaken _)) hpre)
   refine hR.mono ?_
   rintro e W' (⟨rfl,hJ',hk⟩|⟨rfl,hJx'⟩)
   ·gi_wp2
    go_end0
    exact ⟨⟨_,rfl⟩,.inl (by rw [hx,jO hfree];exact hJ')⟩
   ·gi_wp2
    go_end0
    exact ⟨⟨_,rfl⟩,.inr ⟨_,hpre,hJx'⟩⟩
  ·have hpre:pre ++ [a] <+: qg p:=by rw [hx,vI b hfa];exact ⟨qg b,by simp⟩
   have hw1:wrap64 (a.length:Int) = a.length:=wrap64_in (by omega) (by simp at hlen;omega)
   have hw2:wrap64 ((a.length:Int) + 1) = a.length + 1:=wrap64_in (by omega) (by simp at hlen;omega)
   have hs1:=kE (a ++ 47 :: b) 0 a.length
   have hs3:({ data:=List.toArray (a ++ 47 :: b) }:ByteArray).extract (a.length + 1) (a.length + (b.length + 1)) = ⟨b.toArray⟩:=by
    rw [kE,List.take_of_length_le (by simp),List.drop_append,List.drop_of_length_le (by omega),List.nil_append,show a.length + 1 - a.length = 1 from by omega];rfl
   have hs2:=kE (a ++ 47 :: b) (a.length + 1) (a ++ 47 :: b).length
   gi_wp2_with (refine ⟨trivial,?_⟩;gi_at_call 164;refine (callsIn_wide.2 (YX _ _)).mono ?_;rintro e w1 ⟨rfl,hg⟩;have hd0:=kept hg hb;have hd1:=kept hg hb1;have hd2:=kept hg hb2;have d0:=(j8 hd0).1;have d1:=(j8 hd1).1;have d2:=(j8 hd2).1;obtain ⟨fn,tmps,assign,body,hy,hR⟩:=hY pre a w1 (hJ _ _ _ hJs (hg.weaken _)) hpre)
   refine hR.mono ?_
   rintro e W' (⟨rfl,hJ',hk⟩|⟨rfl,hJx'⟩)
   ·have he0:=(hk S (by omega) (by omega)).trans hd0
    have he1:=(hk (S + 1) (by omega) (by omega)).trans hd1
    have he2:=(hk (S + 2) (by omega) (by omega)).trans hd2
    have e0:=(j8 he0).1
    have e1:=(j8 he1).1
    have e2:=(j8 he2).1
    have f0:=(j8 he0).2
    gi_wp2
    go_roundw
    case rel=>exact ⟨pre ++ [a],b,by rw [hx,vI b hfa];simp,by simp at hlen;omega,heap_set he0 _,(zm W' _ (by omega)).trans he1,(zm W' _ (by omega)).trans he2,hJ _ _ _ hJ' (grownBy_setCell' W' S _)⟩
    case measure =>
     simp [WF,(j8 (heap_set he0 (xr b))).1,c0,ByteArray.size]
     omega
   ·gi_wp2
    refine bodyPost_ret (results_none rfl _ _ _) rfl ?_
    exact ⟨⟨_,rfl⟩,.inr ⟨_,hpre,hJx'⟩⟩
end Go.Proofs.YtnhpclmbhbblbaaGreatDoor
set_option linter.unusedSimpArgs false
set_option linter.unnecessarySimpa false
namespace Go.Proofs.YtnhpclmbhbblbaaGreatDoor
open Go.Ab Go.RowKit Go.Shelf
set_option maxRecDepth 10000
attribute [local go_sem] Oper.semAt_some
def QM (s:qx):List AV:=[.v (str s)]
abbrev mk (D:Nat):Deferred := { target := .collected D,args := #[] }
theorem Kk (s:qx) (w:World):Calls Tryz.prog 137 #[xr s,xr vG] w fun e w'=>e = .returned (.int .i64 (s.count 47:Nat)) ∧ w' = w:=by
 show Calls _ _ #[xr s,.string ⟨#[47]⟩] w _
 go_enter Tryz.func137,Tryz.ntmps137
 go_wp2
 rw [run_callFunc_extern Tryz.func163 (by kernel_rfl) (by kernel_rfl) (by kernel_rfl) (e:=Extern.BytealgCount.count) (by kernel_rfl),Lib.run_countString]
 simp only [Result.andThen]
 rw [Oper.upon_value]
 go_wp2
 go_ret
 refine ⟨?_,rfl⟩
 simp [Lib.countByte]
 rfl
theorem YV (s:qx) (w:World):Calls Tryz.prog 114 #[xr s] w fun e w'=>e = .returned (.bool (jF s)) ∧ w.grownBy w' none:=by
 have htg:=k8 s
 have hg0:w.grownBy w none:=⟨rfl,rfl,rfl,Nat.le_refl _,fun _ _ _=>rfl⟩
 go_enter Tryz.func114,Tryz.ntmps114
 go_wp2_with (go_at_call 137;refine (Kk s _).mono ?_;rintro e w' ⟨rfl,rfl⟩)
 all_goals go_ret
 all_goals (refine ⟨?_,hg0⟩)
 ·show Ending.returned (Value.bool _) = _
  try rw [htg]
  congr 2
  rw [Bool.eq_iff_iff]
  simp
  omega
 ·show Ending.returned (Value.bool true) = _
  try rw [htg]
  congr 2
  have h6:6 ≤ s.count 47:=by first|omega|(simp_all;done)|(simp_all;omega)
  simp [h6]
theorem Qb {F:Fence} {n:Nat} {P:Program} {fn:Func} {tmps:Array Value} {R:Ending → World → Prop} : ∀ (Ds:List Nat) (W:World),Ds.Nodup → (∀ D,D ∈ Ds → W.heap[D]? = some (.deferred (some []))) →
  (∀ W',W.heap.size = W'.heap.size → W'.os = W.os → W'.tape = W.tape → W'.output = W.output → (∀ k,k ∉ Ds → W'.heap[k]? = W.heap[k]?) → LeavesInM F n P fn tmps R [] .returning W') → LeavesInM F n P fn tmps R (Ds.map mk) .returning W
 | [],W,_,_,h=>h W rfl rfl rfl rfl fun _ _=>rfl
 | D :: Ds,W,hn,hd,h=>by
   obtain ⟨h1,h2⟩:=List.nodup_cons.1 hn
   have hK:=hd D (by simp)
   refine ⟨by simp,.inl ⟨D,_,rfl,run_takeDeferred hK,Qb Ds _ h2 (fun D' hD'=>(World.putObj_heap_other (by rintro rfl;exact h1 hD')).trans (hd D' (by simp [hD']))) fun W' a1 a2 a3 a4 a5=>?_⟩⟩
   refine h W' (by rw [← a1];simp) a2 a3 a4 fun k hk=>?_
   simp only [List.mem_cons,not_or] at hk
   exact (a5 k hk.2).trans (World.putObj_heap_other hk.1)
structure ChkW (w:World) (e:Int) (Ds:List Nat) (W:World):Prop where
 below:Below w.heap.size w W
 cell:W.heap[w.heap.size]? = some (.cells #[.int .i64 e] 24 (0,0))
 marks : ∀ D,D ∈ Ds → w.heap.size < D ∧ W.heap[D]? = some (.deferred (some []))
theorem ChkW.grown {w:World} {e:Int} {Ds:List Nat} {W W' : World} {row:Option Nat} (h:ChkW w e Ds W) (hg:W.grownBy W' row) (hr : ∀ r,row = some r → w.heap.size < r ∧ r ∉ Ds):ChkW w e Ds W':=by
 have hlt:=(Array.getElem?_eq_some_iff.1 h.cell).1
 refine ⟨h.below.grown hg (by omega) (fun k e=>by have:=(hr k e).1;omega),(hg.block _ hlt (fun e=>by have:=(hr _ e.symm).1;omega)).trans h.cell,fun D hD=>⟨(h.marks D hD).1,?_⟩⟩
 exact (hg.block D (Array.getElem?_eq_some_iff.1 (h.marks D hD).2).1 (fun e=>(hr _ e.symm).2 hD)).trans (h.marks D hD).2
theorem ChkW.lt {w:World} {e:Int} {Ds:List Nat} {W:World} (h:ChkW w e Ds W):w.heap.size < W.heap.size:=(Array.getElem?_eq_some_iff.1 h.cell).1
theorem ChkW.mlt {w:World} {e:Int} {Ds:List Nat} {W:World} (h:ChkW w e Ds W) : ∀ D,D ∈ Ds → D < W.heap.size:=fun D hD=>(Array.getElem?_eq_some_iff.1 (h.marks D hD).2).1
theorem ChkW.set {w:World} {e:Int} {Ds:List Nat} {W:World} (h:ChkW w e Ds W) (e' : Int):ChkW w e' Ds (W.setCell ⟨w.heap.size,0,Option.none⟩ (.int .i64 e')) :=
 ⟨h.below.setCell (Nat.le_refl _) _,heap_set h.cell _,fun D hD=>⟨(h.marks D hD).1,(zm W _ (by have:=(h.marks D hD).1;omega)).trans (h.marks D hD).2⟩⟩
theorem kg {n:Nat} {tmps:Array Value} {w W:World} {e:Int} {Ds:List Nat} (h:ChkW w e Ds W) (hn:Ds.Nodup) (ht:tmps.getD 2 undef = .pointer (some ⟨w.heap.size,0,Option.none⟩)) :
  LeavesInM Fence.wide n Tryz.prog Tryz.f109 tmps (fun en w'=>en = .returned (.int .i64 e) ∧ w.grownBy w' Option.none) (Ds.map mk) .returning W:=by
 refine Qb Ds W hn (fun D hD=>(h.marks D hD).2) fun W' a1 a2 a3 a4 a5=>?_
 have hc:W'.heap[w.heap.size]? = some (.cells #[.int .i64 e] 24 (0,0)):=(a5 _ (fun hm=>absurd (h.marks _ hm).1 (Nat.lt_irrefl _))).trans h.cell
 have hcell:=(j8 hc).1
 refine ⟨.int .i64 e,?_,rfl,⟨a2.trans h.below.os,a3.trans h.below.tape,a4.trans h.below.output,by have:=h.below.size;omega,fun k hk _=>(a5 k (fun hm=>by have:=(h.marks k hm).1;omega)).trans (h.below.block k hk)⟩⟩
 simp only [Array.getD_eq_getD_getElem?] at ht
 simp [results,Tryz.results109,go_sem,ht,hcell]
theorem VA {w W X:World} {e e' : Int} {Ds:List Nat} {D:Nat} (hW:ChkW w e Ds W) (hnd:Ds.Nodup) (hX:ChkW w e' Ds X) (hK:X.heap[D]? = some (.deferred (some []))) (hD:W.heap.size ≤ D) :
  ChkW w e' (D :: Ds) X ∧ (D :: Ds).Nodup ∧ mk D :: Ds.map mk = (D :: Ds).map mk:=by
 have:=hW.lt
 refine ⟨⟨hX.below,hX.cell,fun D' hD'=>?_⟩,List.nodup_cons.2 ⟨fun hm=>by have:=hW.mlt _ hm;omega,hnd⟩,rfl⟩
 rcases List.mem_cons.1 hD' with rfl|h
 ·exact ⟨by omega,hK⟩
 ·exact hX.marks D' h
theorem YE {p n:qx} (h:n ∈ qg p):n.length ≤ p.length:=by
 induction p generalizing n with
 | nil=>simp [qg] at h;subst h;simp
 | cons c s ih =>
   simp only [qg] at h
   split at h
   ·rcases List.mem_cons.1 h with rfl|h
    ·simp
    ·have:=ih h;simp;omega
   ·split at h
    ·simp at h;subst h;simp
    ·rename_i m l hm
     rcases List.mem_cons.1 h with rfl|h
     ·have:=ih (n:=m) (by rw [hm];simp);simp;omega
     ·have:=ih (n:=n) (by rw [hm];simp [h]);simp;omega
theorem kP {ps:List qx} {i:Nat} (h:i < ps.length):jX (ps.drop i) = if qn ps[i] = 0 then jX (ps.drop (i + 1)) else qn ps[i]:=by
 rw [List.drop_eq_getElem_cons h];rfl
theorem YN (ps:List qx) (hps:ps.length ≤ 1000000) (hsz : ∀ p,p ∈ ps → p.length ≤ 140737488355328) (A:Option Addr) (cap:Nat) (w:World)
  (hA : ∀ i (h:i < ps.length), ∃ bb off,A = some ⟨bb,off,Option.none⟩ ∧ bb < w.heap.size ∧ w.cell? ⟨bb,off + i,Option.none⟩ = some (xr ps[i])) :
  Calls Tryz.prog 109 #[.slice A ps.length cap] w fun e w'=>e = .returned (.int .i64 (jX ps)) ∧ w.grownBy w' Option.none:=by
 refine (callsIn_wide (n:=10)).1 ?_
 refine callsIn_of_wp_marks Tryz.func109 rfl trivial ?_ rfl
 simp only [Tryz.ntmps109,List.size_toArray,List.length_cons,List.length_nil,Nat.reduceAdd,Nat.reduceSub,Array.replicate_succ,Array.replicate_zero,List.push_toArray,List.append_toArray,List.cons_append,List.nil_append]
 gi_wp2
 refine wpIn_loop (fun a W => ∃ (i:Nat) (Ds:List Nat) (u4 u5 u9 u10 u11 u12 u13 u14 u15 u16 u17 u18 u19 u20:Value),i ≤ ps.length ∧ jX ps = jX (ps.drop i) ∧ Ds.Nodup ∧ ChkW w 0 Ds W ∧
  a = { tmps := #[.slice A ps.length cap,undef,.pointer (some ⟨w.heap.size,0,Option.none⟩),undef,u4,u5,.slice A ps.length cap,.int .i64 ps.length,.int .i64 i,u9,u10,u11,u12,u13,u14,u15,u16,u17,u18,u19,u20],defers:=Ds.map mk })
  (fun a _=>ps.length - (intOf (a.tmps.getD 8 undef)).toNat) ⟨0,[],undef,undef,undef,undef,undef,undef,undef,undef,undef,undef,undef,undef,undef,undef,Nat.zero_le _,rfl,List.nodup_nil,?start,rfl⟩ ?round
 case start=>exact ⟨(Below.refl _ w).alloc (Nat.le_refl _) _,World.alloc_heap_new w _,nofun⟩
 case round =>
  rintro a W ⟨i,Ds,u4,u5,u9,u10,u11,u12,u13,u14,u15,u16,u17,u18,u19,u20,hi,herr,hnd,hW,rfl⟩
  have hlt0:=hW.lt
  have cE:=(j8 hW.cell).1
  have fE:=(j8 hW.cell).2
  by_cases hlt:i < ps.length
  ·obtain ⟨bb,off,hAA,hbb,hcell⟩:=hA i hlt
   subst hAA
   have hc:W.cell? ⟨bb,off + i,Option.none⟩ = some (xr ps[i]):=by rw [World.cell?_of_block (hW.below.block bb hbb)];exact hcell
   gi_wp2_with (refine ⟨trivial,?_⟩;gi_at_call 131;refine (callsIn_wide.2 (Xc _ _)).mono ?_;rintro e w' ⟨rfl,rfl⟩)
   have hst : ∀ e (X Y:World) row,ChkW w e Ds X → X.grownBy Y row → (∀ r,row = some r → W.heap.size ≤ r) → ChkW w e Ds Y:=fun e X Y row hX hg hr=>hX.grown hg fun r e=>by
    have h1:=hr r e
    exact ⟨by omega,fun hm=>by have:=hW.mlt r hm;omega⟩
   have hpi:=hsz ps[i] (List.getElem_mem hlt)
   have hW3:ChkW w 0 Ds (((W.alloc (.cells #[xr ps[i]] 9)).alloc (.cells #[xr vG] 9)).alloc (.cells #[.int .i64 0] 3)):=hst 0 _ _ Option.none hW ⟨rfl,rfl,rfl,by simp;omega,fun k hk _=>((Below.heap_alloc _ _ k (by simp;omega)).trans (Below.heap_alloc _ _ k (by simp;omega))).trans (Below.heap_alloc _ _ k hk)⟩ nofun
   refine wq (F:=Fence.wide) rfl (by decide) (gf:=176) (lb := #[wI (W.heap.size + 1),wI W.heap.size,wI (W.heap.size + 2)]) rfl trivial (enters_of Tryz.func176 (by kernel_rfl) rfl) (S:=W.heap.size) (names:=qg ps[i]) (by simp) (ZH _ (by decide) ps[i] hpi _ _ ?s0 ?s1 ?s2) rfl
    (fun pre X=>(∀ x,x ∈ pre → yb x = true) ∧ ChkW w 0 Ds X) (fun pre X=>(∃ x,x ∈ pre ∧ yb x = false) ∧ ChkW w 1 Ds X)
    (fun s X Y row h hg hr=>⟨h.1,hst 0 X Y row h.2 hg hr⟩) (fun s X Y row h hg hr=>⟨h.1,hst 1 X Y row h.2 hg hr⟩) ⟨nofun,hW3⟩
    (fun x => { tmps := #[.slice (some ⟨bb,off,Option.none⟩) ps.length cap,undef,.pointer (some ⟨w.heap.size,0,Option.none⟩),undef,xr ps[i],xr x,.slice (some ⟨bb,off,Option.none⟩) ps.length cap,.int .i64 ps.length,.int .i64 i,.bool true,.pointer (some ⟨bb,off + i,Option.none⟩),xr ps[i],xr ps[i],.func (.func 176) #[] #[wI (W.heap.size + 1),wI W.heap.size,wI (W.heap.size + 2)],xr x,u15,u16,u17,u18,u19,u20],defers:=[] }) ?assign ?body ?done ?stop
   case s0=>exact (Below.heap_alloc _ _ _ (by simp;omega)).trans ((Below.heap_alloc _ _ _ (by simp)).trans (World.alloc_heap_new W _))
   case s1=>exact (Below.heap_alloc _ _ _ (by simp)).trans (by have:=World.alloc_heap_new (W.alloc (.cells #[xr ps[i]] 9)) (.cells #[xr vG] 9);rwa [World.size_alloc] at this)
   case s2=>exact (by have:=World.alloc_heap_new ((W.alloc (.cells #[xr ps[i]] 9)).alloc (.cells #[xr vG] 9)) (.cells #[.int .i64 0] 3);rwa [World.size_alloc,World.size_alloc] at this)
   case assign =>
    intro l x X K hK
    gi_wp2
    exact hK
   case body =>
    rintro l pre x X ⟨hpre,hX⟩ hpx hsX
    have hxn:x ∈ qg ps[i]:=hpx.subset (by simp)
    have hxl:x.length ≤ 9223372036854775807:=by have:=YE hxn;omega
    have cX:=(j8 hX.cell).1
    have fX:=(j8 hX.cell).2
    cases hb:yb x
    ·gi_wp2_with (refine ⟨trivial,?_⟩;gi_at_call 53;refine (CallsIn.inRound l (callsIn_wide.2 (J2 x _ hxl))).mono ?_;rintro e w1 ⟨rfl,rfl⟩)
     exact ⟨⟨by simp [World.setCell],fun k hk hle=>zm X _ (by omega)⟩,⟨x,by simp,hb⟩,hX.set 1⟩
    ·gi_wp2_with (refine ⟨trivial,?_⟩;gi_at_call 53;refine (CallsIn.inRound l (callsIn_wide.2 (J2 x _ hxl))).mono ?_;rintro e w1 ⟨rfl,rfl⟩)
     exact ⟨⟨Nat.le_refl _,fun _ _ _=>rfl⟩,fun y hy=>(List.mem_append.1 hy).elim (hpre y) (fun e=>by rw [List.mem_singleton.1 e];exact hb),hX⟩
   case done =>
    rintro X ⟨hpre,hX⟩ hK
    obtain ⟨hX',hnd', -⟩:=VA hW hnd hX (D:=W.heap.size + 3) (by simpa using hK) (by omega)
    have hall:(qg ps[i]).all yb = true:=List.all_eq_true.2 hpre
    cases hgt:jF ps[i]
    ·have hpe:qn ps[i] = 0:=by simp [qn,hall,hgt]
     gi_wp2_with (refine ⟨trivial,?_⟩;gi_at_call 114;refine (callsIn_wide.2 (YV _ _)).mono ?_;rintro e w1 ⟨rfl,hg⟩;have hY:=hX'.grown hg nofun)
     refine ⟨⟨i + 1,(W.heap.size + 3) :: Ds,_,_,_,_,_,_,_,_,_,_,_,_,_,_,by omega,by rw [herr,kP hlt,hpe];rfl,hnd',hY,rfl⟩,?_⟩
     simp [intOf]
     omega
    ·have hpe:qn ps[i] = 2:=by simp [qn,hall,hgt]
     have hz:jX ps = 2:=by rw [herr,kP hlt,hpe];rfl
     gi_wp2_with (refine ⟨trivial,?_⟩;gi_at_call 114;refine (callsIn_wide.2 (YV _ _)).mono ?_;rintro e w1 ⟨rfl,hg⟩;have hY:=hX'.grown hg nofun;have cY:=(j8 hY.cell).1;have fY:=(j8 hY.cell).2)
     rw [hz]
     exact kg (hY.set 2) hnd' rfl
   case stop =>
    rintro pre X hpre ⟨⟨x,hx,hb⟩,hX⟩ hK
    obtain ⟨hX',hnd', -⟩:=VA hW hnd hX (D:=W.heap.size + 3) (by simpa using hK) (by omega)
    have hall:¬ (qg ps[i]).all yb = true:=fun h=>by
     have:=List.all_eq_true.1 h x (hpre.subset hx)
     rw [hb] at this;cases this
    have hpe:qn ps[i] = 1:=by simp only [qn,hall];rfl
    have hz:jX ps = 1:=by rw [herr,kP hlt,hpe];rfl
    gi_wp2
    rw [hz]
    simp only [World.size_alloc]
    exact kg hX' hnd' rfl
  ·have hz:jX ps = 0:=by rw [herr,List.drop_of_length_le (by omega)];rfl
   gi_wp2
   rw [hz]
   exact kg (hW.set 0) hnd rfl
theorem ZO (ps:List qx) (hps:ps.length ≤ 1000000) (hsz : ∀ p,p ∈ ps → p.length ≤ 140737488355328):x6 C.P 109 [.sl false (ps.map QM)] (.v (.int .i64 (jX ps))):=by
 refine Vc rfl fun F ρ vs w hag hl hm=>?_
 obtain ⟨v,rfl⟩ : ∃ v,vs = [v]:=by
  match vs,hl with
  | [v],_=>exact ⟨v,rfl⟩
 have h1:=hm 0 v _ rfl rfl
 rcases h1.sl_inv with ⟨h0,ad,cap,hv,_⟩|⟨b,o,cap,c,e',fr,kk,hb,_,_,hsz',hkk,hR,hv⟩
 ·have hnil:ps = []:=List.map_eq_nil_iff.1 h0
  subst hnil
  rw [hv]
  exact YN [] hps hsz ad cap w (fun i h=>absurd h (Nat.not_lt_zero _))
 ·rw [hv]
  have hk1 : ∀ i,i < ps.length → kk = 1:=fun i hi=>(hkk _ (List.getElem_mem (l:=ps.map QM) (n:=i) (by simpa using hi))).symm.trans (by simp [QM])
  have hbw:=hag b _ hb
  have:=YN ps hps hsz (some ⟨b,o,Option.none⟩) cap w (fun i hi=>⟨b,o,rfl,(Array.getElem?_eq_some_iff.1 hbw).1,?_⟩)
  ·rw [List.length_map];exact this
  ·have hk:=hk1 i hi
   subst hk
   have hlt:o + i < c.size:=by simp at hsz';omega
   have hcv:c[o + i]? = some c[o + i]:=Array.getElem?_eq_getElem hlt
   have hrow:(ps.map QM)[i]? = some (QM ps[i]):=by simp [hi]
   have hMv:=hR i 0 (QM ps[i]) (.v (str ps[i])) c[o + i] hrow rfl (by simpa using hcv)
   have:=hMv.v_inv.1
   simp [World.cell?,hbw,hcv,this,str]
end Go.Proofs.YtnhpclmbhbblbaaGreatDoor
set_option linter.unusedSimpArgs false
set_option linter.unnecessarySimpa false
set_option maxHeartbeats 1000000
namespace Go.Proofs.YtnhpclmbhbblbaaGreatDoor
open Go.Ab Go.RowKit
set_option maxRecDepth 10000
attribute [local irreducible] Awp jW jh jn Red qD Go.Ab.Fin qI Rz x4 ji jf ResOk jQ jq yl jg
theorem qap (s:qx) (c:UInt8) (hs:s.length ≤ 9223372036854775807):x6 C.P 132 [.v (str s),.v (.int .u8 (c.toNat:Int))] (.v (.int .i64 (jN c s))):=by
 refine qa Tryz.func132 rfl _ Tryz.ntmps132 (Nat.le_of_ble_eq_true rfl) _ Tryz.results132 0 rfl rfl ?_
 repeat' (first|refine qu ?_|fail|((first|refine xsC ?_ ?_);all_goals (intro hc;have hp:=hc;try simp at hp;try (exfalso;omega)))|refine jc ?_ ?_)
 (refine Awp.red (jt (ts:=[(0,.v (str s)),(1,.v (.int .u8 (c.toNat:Int))),(5,.v (.int .i64 ((s.length:Int) - 1 - ((0:Nat):Int))))]) ?_) ?_;((repeat (first|exact qp|refine qE ?_|refine ju ?_ ?_))))
 all_goals try (apply xY;omega)
 refine jr (fun n σ => ∃ i:Nat,i ≤ s.length ∧ n = s.length - i ∧ (c ∉ s.drop (s.length - i)) ∧ σ = ⟨[(0,.v (str s)),(1,.v (.int .u8 (c.toNat:Int))),(5,.v (.int .i64 ((s.length:Int) - 1 - (i:Int))))],[],C.nh⟩) s.length ⟨0,Nat.zero_le _,rfl,(by simp),rfl⟩ ?_
 rintro n σ ⟨i,hi,rfl,hsofar,rfl⟩
 by_cases hlt:i < s.length
 ·have hx:(s.length:Int) - 1 - (i:Int) = ((s.length - 1 - i:Nat):Int):=by omega
  have hk:s.length - 1 - i < s.length:=by omega
  have hr:s[s.length - 1 - i]? = some s[s.length - 1 - i]:=List.getElem?_eq_getElem hk
  rw [hx]
  repeat' (first|refine qu ?_|fail|((first|refine xsC ?_ ?_);all_goals (intro hc;have hp:=hc;try simp at hp;try (exfalso;omega)))|refine jc ?_ ?_)
  all_goals try (exfalso;omega)
  ·apply jV
   rfl
   have hc:s[s.length - 1 - i] = c:=UInt8.toNat.inj (by omega)
   exact (Zr hk hc (by rw [show s.length - 1 - i + 1 = s.length - i from by omega];exact hsofar)).symm
  ·have hc:¬ s[s.length - 1 - i] = c:=fun e=>by subst e;omega
   have hnext:c ∉ s.drop (s.length - (i + 1)):=by
    rw [show s.length - (i + 1) = s.length - 1 - i from by omega,List.drop_eq_getElem_cons hk,show s.length - 1 - i + 1 = s.length - i from by omega]
    simp only [List.mem_cons,not_or]
    exact ⟨fun e=>hc e.symm,hsofar⟩
   refine ⟨s.length - (i + 1),_,by omega,jt (ts:=[(0,.v (str s)),(1,.v (.int .u8 (c.toNat:Int))),(5,.v (.int .i64 ((s.length:Int) - 1 - ((i + 1:Nat):Int))))]) ?_,i + 1,by omega,rfl,hnext,rfl⟩;((repeat (first|exact qp|refine qE ?_|refine ju ?_ ?_));all_goals (apply xY;omega))
 obtain rfl:i = s.length:=by omega
 rw [show (s.length:Int) - 1 - (s.length:Int) = -1 from by omega]
 repeat' (first|refine qu ?_|fail|((first|refine xsC ?_ ?_);all_goals (intro hc;have hp:=hc;try simp at hp;try (exfalso;omega)))|refine jc ?_ ?_)
 all_goals try (exfalso;omega)
 apply jV
 rfl
 have:c ∉ s:=by simpa using hsofar
 exact (xb this).symm
theorem K8 (s:qx) (c:UInt8) (hs:s.length ≤ 9223372036854775807):x6 C.P 111 [.v (str s),.v (.int .u8 (c.toNat:Int))] (.v (.int .i64 (jN c s))):=by
 refine qa Tryz.func111 rfl _ Tryz.ntmps111 (Nat.le_of_ble_eq_true rfl) _ Tryz.results111 0 rfl rfl ?_
 repeat' (first|refine qu ?_|(first|refine yY Tryz.func132 (qap s c hs ..) ?_)|((first|refine xsC ?_ ?_);all_goals (intro hc;have hp:=hc;try simp at hp;try (exfalso;omega)))|refine jc ?_ ?_)
 apply jV
 rfl
 rfl
theorem ZS (s:qx) (hs:s.length ≤ 9223372036854775800):x6 C.P 110 [.v (str s)] (.tup [.v (str (qy s)),.v (str (qY s))]):=by
 have hl:=K8 s 47 (by omega)
 have hbd:=J5 47 s
 have hpd:qy s = s.take (jN 47 s).toNat:=rfl
 have hld:qY s = s.drop (jN 47 s + 1).toNat:=rfl
 generalize jN 47 s = k at hl hbd hpd hld
 refine qa Tryz.func110 rfl _ Tryz.ntmps110 (Nat.le_of_ble_eq_true rfl) _ Tryz.results110 0 rfl rfl ?_
 repeat' (first|refine qu ?_|(first|refine yY Tryz.func111 (hl ..) ?_|(apply qb;apply wZ;(case hx=>rfl);(case hy=>rfl);(case hN=>exact nle rfl))|(apply qb;apply q8 (a:=0) (b:=k.toNat);(case hx=>rfl);(case hT=>rfl);(case he=>rfl);(case ha=>rfl);(case hb=>exact ⟨_,rfl⟩);(case hab=>(first|omega|(simp;done)|(simp only [List.length_cons,List.length_nil,List.length_map];omega)|(simp;omega)));(case hbl=>(first|omega|(simp;done)|(simp only [List.length_cons,List.length_nil,List.length_map];omega)|(simp;omega)));(case hN=>exact nle rfl))|(apply qb;apply q8 (a:=(k + 1).toNat) (b:=s.length);(case hx=>rfl);(case hT=>rfl);(case he=>rfl);(case ha=>exact ⟨_,xY (by omega)⟩);(case hb=>rfl);(case hab=>(first|omega|(simp;done)|(simp only [List.length_cons,List.length_nil,List.length_map];omega)|(simp;omega)));(case hbl=>(first|omega|(simp;done)|(simp only [List.length_cons,List.length_nil,List.length_map];omega)|(simp;omega)));(case hN=>exact nle rfl)))|((first|refine xsC ?_ ?_);all_goals (intro hc;have hp:=hc;try simp at hp;try (exfalso;omega)))|refine jc ?_ ?_)
 all_goals try (exfalso;omega)
 (refine xG (rs:=[.tmp 2,.tmp 3]) ?_;(repeat' (first|exact jl|apply qT|exact je rfl|exact xq|exact kz|apply yC|apply xA|apply yi|apply xy|apply yL|apply xz|refine ky ?_|apply vn));all_goals (first|exact hpd.symm|(rw [hld,List.take_length])))
theorem K6 (p n:qx) (hp:p.length ≤ 140737488355328) (hn:n.length ≤ 1407374883553280):x6 C.P 113 [.v (str p),.v (str n)] (.v (str (zx p n))):=by
 refine qa Tryz.func113 rfl _ Tryz.ntmps113 (Nat.le_of_ble_eq_true rfl) _ Tryz.results113 0 rfl rfl ?_
 repeat' (first|refine qu ?_|fail|((first|refine xsC ?_ ?_);all_goals (intro hc;have hp:=hc;try simp at hp;try (exfalso;omega)))|refine jc ?_ ?_)
 · (refine xG (rs:=[.tmp 4]) ?_;(repeat' (first|exact jl|apply qT|exact je rfl|exact xq|exact kz|apply yC|apply xA|apply yi|apply xy|apply yL|apply xz|refine ky ?_|apply vn));all_goals (simp_all [zx]))
 · (refine xG (rs:=[.tmp 4]) ?_;(repeat' (first|exact jl|apply qT|exact je rfl|exact xq|exact kz|apply yC|apply xA|apply yi|apply xy|apply yL|apply xz|refine ky ?_|apply vn));all_goals (simp_all [zx]))
end Go.Proofs.YtnhpclmbhbblbaaGreatDoor
set_option linter.unusedSimpArgs false
set_option linter.unnecessarySimpa false
set_option maxHeartbeats 1000000
namespace Go.Proofs.YtnhpclmbhbblbaaGreatDoor
open Go.Ab Go.RowKit
set_option maxRecDepth 10000
attribute [local irreducible] Awp jW jh jn Red qD Go.Ab.Fin qI Rz x4 ji jf ResOk jQ jq yl jg
theorem VN (q s:qx):q.isPrefixOf s = (decide (q.length ≤ s.length) && decide (s.take q.length = q)):=by
 rw [Bool.eq_iff_iff,List.isPrefixOf_iff_prefix,Bool.and_eq_true,decide_eq_true_iff,decide_eq_true_iff,List.prefix_iff_eq_take]
 constructor
 ·intro h
  have h2:=congrArg List.length h
  rw [List.length_take] at h2
  exact ⟨by omega,h.symm⟩
 ·rintro ⟨_,h⟩;exact h.symm
theorem Kf (s q:qx):x6 C.P 153 [.v (str s),.v (str q)] (.v (.bool (q.isPrefixOf s))):=by
 have hpt:=VN q s
 refine qa Tryz.func153 rfl _ Tryz.ntmps153 (Nat.le_of_ble_eq_true rfl) _ Tryz.results153 0 rfl rfl ?_
 repeat' (first|refine qu ?_|(first|(apply qb;apply q8 (a:=0) (b:=q.length);(case hx=>rfl);(case hT=>rfl);(case he=>rfl);(case ha=>rfl);(case hb=>exact ⟨_,rfl⟩);(case hab=>(first|omega|(simp;done)|(simp only [List.length_cons,List.length_nil,List.length_map];omega)|(simp;omega)));(case hbl=>(first|omega|(simp;done)|(simp only [List.length_cons,List.length_nil,List.length_map];omega)|(simp;omega)));(case hN=>exact nle rfl)))|((first|refine qk ?_ ?_|refine qj ?_ ?_|refine xsC ?_ ?_);all_goals (intro hc;have hp:=hc;try simp at hp;try (exfalso;omega)))|refine jc ?_ ?_)
 all_goals try (exfalso;omega)
 ·apply yH
  rfl
  have:q.length ≤ s.length:=by omega
  rw [hpt];simp [this]
 ·apply yH
  rfl
  have:¬ q.length ≤ s.length:=by omega
  rw [hpt];simp [this]
theorem K9 (s q:qx):x6 C.P 128 [.v (str s),.v (str q)] (.v (.bool (q.isPrefixOf s))):=by
 refine qa Tryz.func128 rfl _ Tryz.ntmps128 (Nat.le_of_ble_eq_true rfl) _ Tryz.results128 0 rfl rfl ?_
 repeat' (first|refine qu ?_|(first|refine yY Tryz.func153 (Kf s q ..) ?_)|((first|refine xsC ?_ ?_);all_goals (intro hc;have hp:=hc;try simp at hp;try (exfalso;omega)))|refine jc ?_ ?_)
 apply yH
 rfl
 rfl
theorem Kd (p q:qx) (hq:q.length ≤ 140737488355328):x6 C.P 104 [.v (str p),.v (str q)] (.v (.bool (inB p q))):=by
 have hpr:=K9 p (q ++ [47])
 refine qa Tryz.func104 rfl _ Tryz.ntmps104 (Nat.le_of_ble_eq_true rfl) _ Tryz.results104 0 rfl rfl ?_
 repeat' (first|refine qu ?_|(first|refine yY Tryz.func128 (hpr ..) ?_)|((first|refine qk ?_ ?_|refine qj ?_ ?_|refine xsC ?_ ?_);all_goals (intro hc;have hp:=hc;try simp at hp;try (exfalso;omega)))|refine jc ?_ ?_)
 all_goals (apply yH;rfl;simp_all [inB])
theorem XL (p:qx):jX [p] = qn p:=by
 simp only [jX];split<;>simp_all
theorem X4 (p:qx) (hp:p.length ≤ 140737488355328):x6 C.P 109 [.sl false [[.v (str p)]]] (.v (.int .i64 (qn p))):=by
 have:=ZO [p] (by simp) (by simpa using hp)
 rw [XL] at this
 exact this
theorem JE (p:qx) (hp:p.length ≤ 140737488355328):x6 C.P 119 [.v (str p)] (.v (.int .i64 (qn p))):=by
 have hch:=X4 p hp
 refine qa Tryz.func119 rfl _ Tryz.ntmps119 (Nat.le_of_ble_eq_true rfl) _ Tryz.results119 0 rfl rfl ?_
 repeat' (first|refine qu ?_|(first|(refine yu ?_)|refine xP Tryz.func109 (hch ..) ?_)|((first|refine xsC ?_ ?_);all_goals (intro hc;have hp:=hc;try simp at hp;try (exfalso;omega)))|refine jc ?_ ?_)
 apply jV
 rfl
 rfl
def YG (e:Int) (s:qx):qx:=if e = 0 then s else []
def xo (p f t:qx):Int:=if jX [p,f,t] = 0 then (if inB p f then (if jF (t ++ p.drop f.length) then 2 else 0) else 5) else jX [p,f,t]
theorem qaL {p f:qx} (h:inB p f = true):f.length ≤ p.length:=by
 simp only [inB,Bool.or_eq_true,decide_eq_true_eq,List.isPrefixOf_iff_prefix] at h
 rcases h with rfl|h
 ·exact Nat.le_refl _
 ·have:=h.length_le;simp at this;omega
theorem ZR (p f t:qx) (hp:p.length ≤ 140737488355328) (hf:f.length ≤ 140737488355328) (ht:t.length ≤ 140737488355328):x6 C.P 124 [.v (str p),.v (str f),.v (str t)] (.tup [.v (str (YG (xo p f t) (t ++ p.drop f.length))),.v (.int .i64 (xo p f t))]):=by
 have hch:x6 C.P 109 [.sl false [[.v (str p)],[.v (str f)],[.v (str t)]]] (.v (.int .i64 (jX [p,f,t]))):=ZO [p,f,t] (by simp) (by simpa using ⟨hp,hf,ht⟩)
 have hi:=Kd p f hf
 have hg:=ZP (t ++ p.drop f.length)
 have hln := @qaL p f
 have htk:p.take p.length = p:=List.take_length
 cases hb:inB p f with
 | false =>
   rw [hb] at hi
   refine qa Tryz.func124 rfl _ Tryz.ntmps124 (Nat.le_of_ble_eq_true rfl) _ Tryz.results124 0 rfl rfl ?_
   repeat' (first|refine qu ?_|(first|(refine yu ?_)|refine xP Tryz.func109 (hch ..) ?_|refine yY Tryz.func104 (hi ..) ?_)|((first|refine xsC ?_ ?_);all_goals (intro hc;have hp:=hc;try simp at hp;try (exfalso;omega)))|refine jc ?_ ?_)
   all_goals ((refine xG (rs:=[.tmp 6,.tmp 7]) ?_;(repeat' (first|exact jl|apply qT|exact je rfl|exact xq|exact kz|apply yC|apply xA|apply yi|apply xy|apply yL|apply xz|refine ky ?_|apply vn));all_goals (simp_all [YG,xo])))
 | true =>
   rw [hb] at hi
   have hfl:=hln hb
   have hdl:(p.drop f.length).length ≤ p.length:=by simp
   refine qa Tryz.func124 rfl _ Tryz.ntmps124 (Nat.le_of_ble_eq_true rfl) _ Tryz.results124 0 rfl rfl ?_
   repeat' (first|refine qu ?_|(first|(refine yu ?_)|refine xP Tryz.func109 (hch ..) ?_|refine yY Tryz.func104 (hi ..) ?_|(apply qb;apply q8 (a:=f.length) (b:=p.length);(case hx=>rfl);(case hT=>rfl);(case he=>rfl);(case ha=>exact ⟨_,rfl⟩);(case hb=>rfl);(case hab=>(first|omega|(simp;done)|(simp only [List.length_cons,List.length_nil,List.length_map];omega)|(simp;omega)));(case hbl=>(first|omega|(simp;done)|(simp only [List.length_cons,List.length_nil,List.length_map];omega)|(simp;omega)));(case hN=>exact nle rfl))|(apply jm Tryz.func114 rfl rfl;intro hIsFn;refine qaW hIsFn ((htk.symm ▸ hg) ..) ?_;skip))|((first|refine xsC ?_ ?_);all_goals (intro hc;have hp:=hc;try simp at hp;try (exfalso;omega)))|refine jc ?_ ?_)
   all_goals ((refine xG (rs:=[.tmp 6,.tmp 7]) ?_;(repeat' (first|exact jl|apply qT|exact je rfl|exact xq|exact kz|apply yC|apply xA|apply yi|apply xy|apply yL|apply xz|refine ky ?_|apply vn));all_goals (simp_all [YG,xo])))
end Go.Proofs.YtnhpclmbhbblbaaGreatDoor
set_option linter.unusedSimpArgs false
set_option linter.unnecessarySimpa false
set_option maxHeartbeats 1000000
namespace Go.Proofs.YtnhpclmbhbblbaaGreatDoor
open Go.Ab Go.RowKit
set_option maxRecDepth 10000
attribute [local irreducible] Awp jW jh jn Red qD Go.Ab.Fin qI Rz x4 ji jf ResOk jQ jq yl jg
def digs1:qx:=[48,49,50,51,52,53,54,55,56,57,97,98,99,100,101,102,103,104,105,106,107,108,109,110,111,112,113,114,115,116,117,118,119,120,121,122]
def digs2:qx:=[48,48,48,49,48,50,48,51,48,52,48,53,48,54,48,55,48,56,48,57,49,48,49,49,49,50,49,51,49,52,49,53,49,54,49,55,49,56,49,57,50,48,50,49,50,50,50,51,50,52,50,53,50,54,50,55,50,56,50,57,51,48,51,49,51,50,51,51,51,52,51,53,51,54,51,55,51,56,51,57,52,48,52,49,52,50,52,51,52,52,52,53,52,54,52,55,52,56,52,57,53,48,53,49,53,50,53,51,53,52,53,53,53,54,53,55,53,56,53,57,54,48,54,49,54,50,54,51,54,52,54,53,54,54,54,55,54,56,54,57,55,48,55,49,55,50,55,51,55,52,55,53,55,54,55,55,55,56,55,57,56,48,56,49,56,50,56,51,56,52,56,53,56,54,56,55,56,56,56,57,57,48,57,49,57,50,57,51,57,52,57,53,57,54,57,55,57,56,57,57]
theorem Wp : ∀ k:Fin 10,(digs1.take (k.val + 1)).drop k.val = ku (k.val:Int):=by decide +kernel
theorem Wq : ∀ k:Fin 100,10 ≤ k.val → (digs2.take (2 * k.val + 2)).drop (2 * k.val) = ku (k.val:Int):=by decide +kernel
theorem qaq (k:Nat) (hk:k < 100):x6 C.P 154 [.v (.int .i64 (k:Int))] (.v (str (ku (k:Int)))):=by
 have h1:=fun h:k < 10=>Wp ⟨k,h⟩
 have h2:=Wq ⟨k,hk⟩
 simp only at h1 h2
 have l1:digs1.length = 36:=rfl
 have l2:digs2.length = 200:=rfl
 refine qa Tryz.func154 rfl _ Tryz.ntmps154 (Nat.le_of_ble_eq_true rfl) _ Tryz.results154 0 rfl rfl ?_
 repeat' (first|refine qu ?_|(first|(apply qb;apply q8 (l:=digs1) (a:=k) (b:=k + 1);(case hx=>rfl);(case hT=>rfl);(case he=>rfl);(case ha=>exact ⟨_,rfl⟩);(case hb=>exact ⟨_,rfl⟩);(case hab=>omega);(case hbl=>omega);(case hN=>exact nle rfl))|(apply qb;apply qbp;rfl;rfl;omega;omega;exact nle rfl)|(apply qb;apply q8 (l:=digs2) (a:=2 * k) (b:=2 * k + 2);(case hx=>rfl);(case hT=>rfl);(case he=>rfl);(case ha=>exact ⟨_,xY (by omega)⟩);(case hb=>exact ⟨_,xY (by omega)⟩);(case hab=>omega);(case hbl=>omega);(case hN=>exact nle rfl)))|((first|refine xsC ?_ ?_);all_goals (intro hc;have hp:=hc;try simp at hp;try (exfalso;omega)))|refine jc ?_ ?_)
 · (refine xG (rs:=[.tmp 2]) ?_;(repeat' (first|exact jl|apply qT|exact je rfl|exact xq|exact kz|apply yC|apply xA|apply yi|apply xy|apply yL|apply xz|refine ky ?_|apply vn));all_goals exact h1 (by omega))
 · (refine xG (rs:=[.tmp 2]) ?_;(repeat' (first|exact jl|apply qT|exact je rfl|exact xq|exact kz|apply yC|apply xA|apply yi|apply xy|apply yL|apply xz|refine ky ?_|apply vn));all_goals exact h2 (by omega))
theorem K5 (k:Nat) (hk:k < 100):x6 C.P 129 [.v (.int .i64 (k:Int)),.v (.int .i64 10)] (.v (str (ku (k:Int)))):=by
 have hs:=qaq k hk
 refine qa Tryz.func129 rfl _ Tryz.ntmps129 (Nat.le_of_ble_eq_true rfl) _ Tryz.results129 0 rfl rfl ?_
 repeat' (first|refine qu ?_|(first|refine yY Tryz.func154 (hs ..) ?_)|((first|refine qk ?_ ?_|refine qj ?_ ?_|refine xsC ?_ ?_);all_goals (intro hc;have hp:=hc;try simp at hp;try (exfalso;omega)))|refine jc ?_ ?_)
 all_goals try (exfalso;omega)
 (exact QP (rs:=[.tmp 4]))
theorem qao (k:Nat) (hk:k < 100):x6 C.P 106 [.v (.int .i64 (k:Int))] (.v (str (ku (k:Int)))):=by
 have hs:=K5 k hk
 refine qa Tryz.func106 rfl _ Tryz.ntmps106 (Nat.le_of_ble_eq_true rfl) _ Tryz.results106 0 rfl rfl ?_
 repeat' (first|refine qu ?_|(first|refine yY Tryz.func129 (hs ..) ?_)|((first|refine xsC ?_ ?_);all_goals (intro hc;have hp:=hc;try simp at hp;try (exfalso;omega)))|refine jc ?_ ?_)
 (exact QP (rs:=[.tmp 2]))
theorem qan (k:Nat) (hk:k < 100):x6 C.P 81 [.v (.int .i64 (k:Int))] (.v (str (ku (k:Int)))):=by
 have hs:=qao k hk
 refine qa Tryz.func81 rfl _ Tryz.ntmps81 (Nat.le_of_ble_eq_true rfl) _ Tryz.results81 0 rfl rfl ?_
 repeat' (first|refine qu ?_|(first|refine yY Tryz.func106 (hs ..) ?_)|((first|refine xsC ?_ ?_);all_goals (intro hc;have hp:=hc;try simp at hp;try (exfalso;omega)))|refine jc ?_ ?_)
 (exact QP (rs:=[.tmp 2]))
theorem KC {u:qx} (h:u ≠ []) : ∃ v c,u = v ++ [c] ∧ u[u.length - 1]? = some c ∧ u.take (u.length - 1) = v:=by
 refine ⟨u.dropLast,u.getLast h,(List.dropLast_concat_getLast h).symm,?_,by rw [List.dropLast_eq_take]⟩
 rw [List.getLast_eq_getElem,List.getElem?_eq_getElem (by have:=List.length_pos_iff.2 h;omega)]
theorem qar (s:qx) (hs:s.length ≤ 140737488355328):x6 C.P 133 [.v (str s),.v (.int .u8 32)] (.v (str (vC s))):=by
 refine qa Tryz.func133 rfl _ Tryz.ntmps133 (Nat.le_of_ble_eq_true rfl) _ Tryz.results133 0 rfl rfl ?_
 repeat' (first|refine qu ?_|fail|((first|refine qk ?_ ?_|refine qj ?_ ?_|refine xsC ?_ ?_);all_goals (intro hc;have hp:=hc;try simp at hp;try (exfalso;omega)))|refine jc ?_ ?_)
 (refine Awp.red (jt (ts:=[(0,.v (str (s.take (s.length - 0)))),(1,.v (.int .u8 32))]) ?_) ?_;((repeat (first|exact qp|refine qE ?_|refine ju ?_ ?_))))
 all_goals try (simp;done)
 refine jr (fun n σ => ∃ i:Nat,i ≤ s.length ∧ n = s.length - i ∧ (vC s = vC (s.take (s.length - i))) ∧ σ = ⟨[(0,.v (str (s.take (s.length - i)))),(1,.v (.int .u8 32))],[],C.nh⟩) s.length ⟨0,Nat.zero_le _,rfl,(by simp),rfl⟩ ?_
 rintro n σ ⟨i,hi,rfl,hsofar,rfl⟩
 have hul:(s.take (s.length - i)).length = s.length - i:=by simp
 by_cases hlt:i < s.length
 ·have hnx:(s.take (s.length - i)).take ((s.take (s.length - i)).length - 1) = s.take (s.length - (i + 1)):=by rw [hul,List.take_take];congr 1;omega
  generalize s.take (s.length - i) = u at hul hsofar hnx ⊢
  have hne:u ≠ []:=fun e=>by subst e;simp at hul;omega
  obtain ⟨v,c,huv,hch,hv⟩:=KC hne
  have htr:=ZK v c
  rw [← huv] at htr
  repeat' (first|refine qu ?_|(first|(apply qb;apply vb (i:=u.length - 1);(case hx=>rfl);(case hy=>exact xY (by omega));(case hT=>rfl);(case he=>rfl);(case hc=>exact hch);(case hN=>exact nle rfl))|(apply qb;apply q8 (a:=0) (b:=u.length - 1);(case hx=>rfl);(case hT=>rfl);(case he=>rfl);(case ha=>rfl);(case hb=>exact ⟨_,xY (by omega)⟩);(case hab=>(first|omega|(simp;done)|(simp only [List.length_cons,List.length_nil,List.length_map];omega)|(simp;omega)));(case hbl=>(first|omega|(simp;done)|(simp only [List.length_cons,List.length_nil,List.length_map];omega)|(simp;omega)));(case hN=>exact nle rfl)))|((first|refine qk ?_ ?_|refine qj ?_ ?_|refine xsC ?_ ?_);all_goals (intro hc;have hp:=hc;try simp at hp;try (exfalso;omega)))|refine jc ?_ ?_)
  all_goals try (exfalso;omega)
  all_goals try (exfalso;exact hne (by assumption))
  ·have hc32:c = 32:=UInt8.toNat.inj (by show c.toNat = 32;omega)
   rw [if_pos hc32] at htr
   have hcond:vC s = vC (s.take (s.length - (i + 1))):=by rw [hsofar,htr, ← hnx,hv]
   refine ⟨s.length - (i + 1),_,by omega,jt (ts:=[(0,.v (str (s.take (s.length - (i + 1))))),(1,.v (.int .u8 32))]) ?_,i + 1,by omega,rfl,hcond,rfl⟩;((repeat (first|exact qp|refine qE ?_|refine ju ?_ ?_));all_goals (rw [← hnx];rfl))
  ·have hc32:¬ c = 32:=fun e=>by subst e;simp at hp
   rw [if_neg hc32] at htr
   (refine xG (rs:=[.tmp 4]) ?_;(repeat' (first|exact jl|apply qT|exact je rfl|exact xq|exact kz|apply yC|apply xA|apply yi|apply xy|apply yL|apply xz|refine ky ?_|apply vn));all_goals (rw [hsofar,htr]))
 obtain rfl:i = s.length:=by omega
 simp only [Nat.sub_self,List.take_zero] at hsofar ⊢
 repeat' (first|refine qu ?_|fail|((first|refine qk ?_ ?_|refine qj ?_ ?_|refine xsC ?_ ?_);all_goals (intro hc;have hp:=hc;try simp at hp;try (exfalso;omega)))|refine jc ?_ ?_)
 all_goals try (exfalso;omega)
 (refine xG (rs:=[.tmp 4]) ?_;(repeat' (first|exact jl|apply qT|exact je rfl|exact xq|exact kz|apply yC|apply xA|apply yi|apply xy|apply yL|apply xz|refine ky ?_|apply vn));all_goals (rw [hsofar];rfl))
theorem qbl (s:qx) (hs:s.length ≤ 140737488355328):x6 C.P 112 [.v (str s),.v (str [32])] (.v (str (vC s))):=by
 have hb:=qar s hs
 refine qa Tryz.func112 rfl _ Tryz.ntmps112 (Nat.le_of_ble_eq_true rfl) _ Tryz.results112 0 rfl rfl ?_
 repeat' (first|refine qu ?_|(first|refine yY Tryz.func133 (hb ..) ?_)|((first|refine qk ?_ ?_|refine qj ?_ ?_|refine xsC ?_ ?_);all_goals (intro hc;have hp:=hc;try simp at hp;try (exfalso;omega)))|refine jc ?_ ?_)
 all_goals try (exfalso;simp_all;done)
 all_goals ((refine xG (rs:=[.tmp 4]) ?_;(repeat' (first|exact jl|apply qT|exact je rfl|exact xq|exact kz|apply yC|apply xA|apply yi|apply xy|apply yL|apply xz|refine ky ?_|apply vn));all_goals (first|(have e:s = []:=(by assumption);subst e;rfl)|rfl)))
end Go.Proofs.YtnhpclmbhbblbaaGreatDoor
set_option linter.unusedSimpArgs false
set_option linter.unnecessarySimpa false
set_option maxHeartbeats 1000000
namespace Go.Proofs.YtnhpclmbhbblbaaGreatDoor
open Go.Ab Go.RowKit
set_option maxRecDepth 10000
attribute [local irreducible] Awp jW jh jn Red qD Go.Ab.Fin qI Rz x4 ji jf ResOk jQ jq yl jg
def yF (p:qx) (n:Int):Int:=if qn p = 0 then (if n < 1 ∨ 99 < n then 3 else x7 p n) else qn p
theorem Vf (n:Int):(ku n).length ≤ 2:=by unfold ku;split<;>simp
theorem Zv (n:Int):(xI n).length ≤ 5:=by have:=Vf n;simp [xI];omega
theorem QN (s:qx):(vC s).length ≤ s.length:=by
 unfold vC
 rw [List.length_reverse]
 exact Nat.le_trans (List.dropWhile_sublist _).length_le (by simp)
theorem Ko (s:qx):(x9 s).length ≤ s.length:=by unfold x9;split<;>simp
theorem Yp (s:qx):(xl s).length ≤ s.length:=by unfold xl;split<;>simp<;>omega
theorem Km (s:qx) (n:Int):(xE s n).length ≤ s.length:=by
 have:=Yp s
 unfold xE
 split
 ·refine Nat.le_trans (QN _) ?_
  rw [List.length_take];omega
 ·exact this
theorem ZN (p:qx) (n:Int) (hp:p.length ≤ 140737488355328):x6 C.P 88 [.v (str p),.v (.int .i64 n)] (.tup [.v (str (YG (yF p n) (xD p n))),.v (.int .i64 (yF p n))]):=by
 have hch:=X4 p hp
 by_cases h0:qn p = 0
 ·rw [h0] at hch
  by_cases hn:n < 1 ∨ 99 < n
  ·rw [show yF p n = 3 from by simp [yF,h0,hn]]
   refine qa Tryz.func88 rfl _ Tryz.ntmps88 (Nat.le_of_ble_eq_true rfl) _ Tryz.results88 0 rfl rfl ?_
   repeat' (first|refine qu ?_|(first|(refine yu ?_)|refine xP Tryz.func109 (hch ..) ?_)|((first|refine qk ?_ ?_|refine qj ?_ ?_|refine xsC ?_ ?_);all_goals (intro hc;have hp:=hc;try simp at hp;try (exfalso;omega)))|refine jc ?_ ?_)
   all_goals try (exfalso;omega)
   all_goals ((refine xG (rs:=[.tmp 4,.tmp 5]) ?_;(repeat' (first|exact jl|apply qT|exact je rfl|exact xq|exact kz|apply yC|apply xA|apply yi|apply xy|apply yL|apply xz|refine ky ?_|apply vn));all_goals (simp_all [YG])))
  ·have hpe:yF p n = x7 p n:=by simp [yF,h0,hn]
   rw [hpe]
   obtain ⟨k,rfl⟩ : ∃ k:Nat,n = k:=⟨n.toNat,by omega⟩
   have hit:=qan k (by omega)
   have hsp:=ZS p (by omega)
   have hnl:(qY p).length ≤ p.length:=by simp [qY]
   have hpl:(qy p).length ≤ p.length:=by simp [qy];omega
   have hd2:=Vf (k:Int)
   have hla:=K8 (qY p) 46 (by omega)
   have hbd:=J5 46 (qY p)
   have hml:=Zv (k:Int)
   have hmk : [32,40] ++ ku (k:Int) ++ [41] = xI (k:Int):=rfl
   have hel:=Ko (qY p)
   have hsl:=Yp (qY p)
   have hcl:=Km (qY p) (k:Int)
   have hrm:zc (qY p) (k:Int) = 20 - ((xI (k:Int)).length:Int) - ((x9 (qY p)).length:Int):=rfl
   have htr:=qbl ((xl (qY p)).take (zc (qY p) (k:Int)).toNat) (by rw [List.length_take];omega)
   have hjo:=K6 (qy p) (xE (qY p) (k:Int) ++ xI (k:Int) ++ x9 (qY p)) (by omega) (by rw [List.length_append,List.length_append];omega)
   have hgr:=ZP (xD p (k:Int))
   have hj2:zx (qy p) (xE (qY p) (k:Int) ++ xI (k:Int) ++ x9 (qY p)) = xD p (k:Int):=rfl
   rw [hj2] at hjo
   have hae:x7 p (k:Int) = if xE (qY p) (k:Int) = [] then 2 else if jF (xD p (k:Int)) then 2 else 0:=rfl
   have hcut:xE (qY p) (k:Int) = if zc (qY p) (k:Int) < ((xl (qY p)).length:Int) then vC ((xl (qY p)).take (zc (qY p) (k:Int)).toNat) else xl (qY p):=rfl
   have hse:(0 < jN 46 (qY p) → xl (qY p) = (qY p).take (jN 46 (qY p)).toNat ∧ x9 (qY p) = ((qY p).take (qY p).length).drop (jN 46 (qY p)).toNat) ∧ (¬ 0 < jN 46 (qY p) → xl (qY p) = qY p ∧ x9 (qY p) = []):=by
    constructor
    ·intro h;rw [List.take_length];simp [xl,x9,h]
    ·intro h;simp [xl,x9,h]
   generalize xD p (k:Int) = Q at hjo hgr hae hj2 ⊢
   generalize x7 p (k:Int) = E at hae ⊢
   generalize xE (qY p) (k:Int) = Cut at hcut hae hjo hcl hj2
   generalize zc (qY p) (k:Int) = Rm at hcut htr hrm
   generalize xl (qY p) = St at hcut htr hse hsl
   generalize x9 (qY p) = En at hse hjo hel hj2 hrm
   generalize xI (k:Int) = Mk at hmk hjo hml hj2 hrm
   generalize jN 46 (qY p) = ix at hla hbd hse
   generalize qY p = nm at *
   generalize qy p = pa at *
   have hTl:(vC (St.take Rm.toNat)).length ≤ p.length:=by
    have:=QN (St.take Rm.toNat)
    rw [List.length_take] at this;omega
   generalize vC (St.take Rm.toNat) = T at htr hcut hTl
   by_cases hix:0 < ix
   ·obtain ⟨hS,hE⟩:=hse.1 hix
    clear hse
    subst hS
    subst hE
    subst hmk
    subst hrm
    cases hrr:decide (20 - ((([32,40] ++ ku (k:Int) ++ [41]:qx)).length:Int) - (((nm.take nm.length).drop ix.toNat).length:Int) < ((nm.take ix.toNat).length:Int))
    ·rw [if_neg (of_decide_eq_false hrr)] at hcut
     subst hcut
     refine qa Tryz.func88 rfl _ Tryz.ntmps88 (Nat.le_of_ble_eq_true rfl) _ Tryz.results88 0 rfl rfl ?_
     repeat' (first|refine qu ?_|(first|(refine yu ?_)|refine xP Tryz.func109 (hch ..) ?_|refine xP Tryz.func110 (hsp ..) ?_|refine yY Tryz.func111 (hla ..) ?_|(apply qb;apply q8 (a:=0) (b:=ix.toNat);(case hx=>rfl);(case hT=>rfl);(case he=>rfl);(case ha=>rfl);(case hb=>exact ⟨_,xY (by omega)⟩);(case hab=>(first|omega|(simp;done)|(simp only [List.length_cons,List.length_nil,List.length_map];omega)|(simp;omega)));(case hbl=>(first|omega|(simp;done)|(simp only [List.length_cons,List.length_nil,List.length_map];omega)|(simp;omega)));(case hN=>exact nle rfl))|(apply qb;apply q8 (a:=ix.toNat) (b:=nm.length);(case hx=>rfl);(case hT=>rfl);(case he=>rfl);(case ha=>exact ⟨_,xY (by omega)⟩);(case hb=>rfl);(case hab=>(first|omega|(simp;done)|(simp only [List.length_cons,List.length_nil,List.length_map];omega)|(simp;omega)));(case hbl=>(first|omega|(simp;done)|(simp only [List.length_cons,List.length_nil,List.length_map];omega)|(simp;omega)));(case hN=>exact nle rfl))|refine yY Tryz.func81 (hit ..) ?_|(apply qb;apply wZ;(case hx=>rfl);(case hy=>rfl);(case hN=>exact nle rfl))|(apply qb;apply q8 (a:=0) (b:=Int.toNat _);(case hx=>rfl);(case hT=>rfl);(case he=>rfl);(case ha=>rfl);(case hb=>exact ⟨_,rfl⟩);(case hab=>(first|omega|(simp;done)|(simp only [List.length_cons,List.length_nil,List.length_map];omega)|(simp;omega)));(case hbl=>(show _ ≤ (nm.take ix.toNat).length;omega));(case hN=>exact nle rfl))|refine yY Tryz.func112 (htr ..) ?_|refine yY Tryz.func113 (hjo ..) ?_|refine yY Tryz.func114 (hgr ..) ?_|(apply qb;apply zl;rfl;rfl;(simp only [List.length_append,List.length_cons,List.length_nil];omega);exact nle rfl))|((first|refine qk ?_ ?_|refine qj ?_ ?_|refine xsC ?_ ?_);all_goals (intro hc;have hp:=hc;try simp at hp;try (exfalso;omega)))|refine jc ?_ ?_)
     all_goals try (exfalso;omega)
     all_goals ((refine xG (rs:=[.tmp 4,.tmp 5]) ?_;(repeat' (first|exact jl|apply qT|exact je rfl|exact xq|exact kz|apply yC|apply xA|apply yi|apply xy|apply yL|apply xz|refine ky ?_|apply vn));all_goals (simp_all [YG])))
    ·have hr2:=of_decide_eq_true hrr
     rw [if_pos hr2] at hcut
     subst hcut
     refine qa Tryz.func88 rfl _ Tryz.ntmps88 (Nat.le_of_ble_eq_true rfl) _ Tryz.results88 0 rfl rfl ?_
     repeat' (first|refine qu ?_|(first|(refine yu ?_)|refine xP Tryz.func109 (hch ..) ?_|refine xP Tryz.func110 (hsp ..) ?_|refine yY Tryz.func111 (hla ..) ?_|(apply qb;apply q8 (a:=0) (b:=ix.toNat);(case hx=>rfl);(case hT=>rfl);(case he=>rfl);(case ha=>rfl);(case hb=>exact ⟨_,xY (by omega)⟩);(case hab=>(first|omega|(simp;done)|(simp only [List.length_cons,List.length_nil,List.length_map];omega)|(simp;omega)));(case hbl=>(first|omega|(simp;done)|(simp only [List.length_cons,List.length_nil,List.length_map];omega)|(simp;omega)));(case hN=>exact nle rfl))|(apply qb;apply q8 (a:=ix.toNat) (b:=nm.length);(case hx=>rfl);(case hT=>rfl);(case he=>rfl);(case ha=>exact ⟨_,xY (by omega)⟩);(case hb=>rfl);(case hab=>(first|omega|(simp;done)|(simp only [List.length_cons,List.length_nil,List.length_map];omega)|(simp;omega)));(case hbl=>(first|omega|(simp;done)|(simp only [List.length_cons,List.length_nil,List.length_map];omega)|(simp;omega)));(case hN=>exact nle rfl))|refine yY Tryz.func81 (hit ..) ?_|(apply qb;apply wZ;(case hx=>rfl);(case hy=>rfl);(case hN=>exact nle rfl))|(apply qb;apply q8 (a:=0) (b:=Int.toNat _);(case hx=>rfl);(case hT=>rfl);(case he=>rfl);(case ha=>rfl);(case hb=>exact ⟨_,rfl⟩);(case hab=>(first|omega|(simp;done)|(simp only [List.length_cons,List.length_nil,List.length_map];omega)|(simp;omega)));(case hbl=>(show _ ≤ (nm.take ix.toNat).length;omega));(case hN=>exact nle rfl))|refine yY Tryz.func112 (htr ..) ?_|refine yY Tryz.func113 (hjo ..) ?_|refine yY Tryz.func114 (hgr ..) ?_|(apply qb;apply zl;rfl;rfl;(simp only [List.length_append,List.length_cons,List.length_nil];omega);exact nle rfl))|((first|refine qk ?_ ?_|refine qj ?_ ?_|refine xsC ?_ ?_);all_goals (intro hc;have hp:=hc;try simp at hp;try (exfalso;omega)))|refine jc ?_ ?_)
     all_goals try (exfalso;omega)
     all_goals ((refine xG (rs:=[.tmp 4,.tmp 5]) ?_;(repeat' (first|exact jl|apply qT|exact je rfl|exact xq|exact kz|apply yC|apply xA|apply yi|apply xy|apply yL|apply xz|refine ky ?_|apply vn));all_goals (simp_all [YG])))
   ·obtain ⟨hS,hE⟩:=hse.2 hix
    clear hse
    have hS':=hS.symm
    subst hS'
    subst hE
    subst hmk
    subst hrm
    cases hrr:decide (20 - ((([32,40] ++ ku (k:Int) ++ [41]:qx)).length:Int) - (([]:qx).length:Int) < ((nm).length:Int))
    ·rw [if_neg (of_decide_eq_false hrr)] at hcut
     subst hcut
     refine qa Tryz.func88 rfl _ Tryz.ntmps88 (Nat.le_of_ble_eq_true rfl) _ Tryz.results88 0 rfl rfl ?_
     repeat' (first|refine qu ?_|(first|(refine yu ?_)|refine xP Tryz.func109 (hch ..) ?_|refine xP Tryz.func110 (hsp ..) ?_|refine yY Tryz.func111 (hla ..) ?_|(apply qb;apply q8 (a:=0) (b:=ix.toNat);(case hx=>rfl);(case hT=>rfl);(case he=>rfl);(case ha=>rfl);(case hb=>exact ⟨_,xY (by omega)⟩);(case hab=>(first|omega|(simp;done)|(simp only [List.length_cons,List.length_nil,List.length_map];omega)|(simp;omega)));(case hbl=>(first|omega|(simp;done)|(simp only [List.length_cons,List.length_nil,List.length_map];omega)|(simp;omega)));(case hN=>exact nle rfl))|(apply qb;apply q8 (a:=ix.toNat) (b:=nm.length);(case hx=>rfl);(case hT=>rfl);(case he=>rfl);(case ha=>exact ⟨_,xY (by omega)⟩);(case hb=>rfl);(case hab=>(first|omega|(simp;done)|(simp only [List.length_cons,List.length_nil,List.length_map];omega)|(simp;omega)));(case hbl=>(first|omega|(simp;done)|(simp only [List.length_cons,List.length_nil,List.length_map];omega)|(simp;omega)));(case hN=>exact nle rfl))|refine yY Tryz.func81 (hit ..) ?_|(apply qb;apply wZ;(case hx=>rfl);(case hy=>rfl);(case hN=>exact nle rfl))|(apply qb;apply q8 (a:=0) (b:=Int.toNat _);(case hx=>rfl);(case hT=>rfl);(case he=>rfl);(case ha=>rfl);(case hb=>exact ⟨_,rfl⟩);(case hab=>(first|omega|(simp;done)|(simp only [List.length_cons,List.length_nil,List.length_map];omega)|(simp;omega)));(case hbl=>omega);(case hN=>exact nle rfl))|refine yY Tryz.func112 (htr ..) ?_|refine yY Tryz.func113 (hjo ..) ?_|refine yY Tryz.func114 (hgr ..) ?_|(apply qb;apply zl;rfl;rfl;(simp only [List.length_append,List.length_cons,List.length_nil];omega);exact nle rfl))|((first|refine qk ?_ ?_|refine qj ?_ ?_|refine xsC ?_ ?_);all_goals (intro hc;have hp:=hc;try simp at hp;try (exfalso;omega)))|refine jc ?_ ?_)
     all_goals try (exfalso;omega)
     all_goals ((refine xG (rs:=[.tmp 4,.tmp 5]) ?_;(repeat' (first|exact jl|apply qT|exact je rfl|exact xq|exact kz|apply yC|apply xA|apply yi|apply xy|apply yL|apply xz|refine ky ?_|apply vn));all_goals (simp_all [YG])))
    ·have hr2:=of_decide_eq_true hrr
     rw [if_pos hr2] at hcut
     subst hcut
     refine qa Tryz.func88 rfl _ Tryz.ntmps88 (Nat.le_of_ble_eq_true rfl) _ Tryz.results88 0 rfl rfl ?_
     repeat' (first|refine qu ?_|(first|(refine yu ?_)|refine xP Tryz.func109 (hch ..) ?_|refine xP Tryz.func110 (hsp ..) ?_|refine yY Tryz.func111 (hla ..) ?_|(apply qb;apply q8 (a:=0) (b:=ix.toNat);(case hx=>rfl);(case hT=>rfl);(case he=>rfl);(case ha=>rfl);(case hb=>exact ⟨_,xY (by omega)⟩);(case hab=>(first|omega|(simp;done)|(simp only [List.length_cons,List.length_nil,List.length_map];omega)|(simp;omega)));(case hbl=>(first|omega|(simp;done)|(simp only [List.length_cons,List.length_nil,List.length_map];omega)|(simp;omega)));(case hN=>exact nle rfl))|(apply qb;apply q8 (a:=ix.toNat) (b:=nm.length);(case hx=>rfl);(case hT=>rfl);(case he=>rfl);(case ha=>exact ⟨_,xY (by omega)⟩);(case hb=>rfl);(case hab=>(first|omega|(simp;done)|(simp only [List.length_cons,List.length_nil,List.length_map];omega)|(simp;omega)));(case hbl=>(first|omega|(simp;done)|(simp only [List.length_cons,List.length_nil,List.length_map];omega)|(simp;omega)));(case hN=>exact nle rfl))|refine yY Tryz.func81 (hit ..) ?_|(apply qb;apply wZ;(case hx=>rfl);(case hy=>rfl);(case hN=>exact nle rfl))|(apply qb;apply q8 (a:=0) (b:=Int.toNat _);(case hx=>rfl);(case hT=>rfl);(case he=>rfl);(case ha=>rfl);(case hb=>exact ⟨_,rfl⟩);(case hab=>(first|omega|(simp;done)|(simp only [List.length_cons,List.length_nil,List.length_map];omega)|(simp;omega)));(case hbl=>omega);(case hN=>exact nle rfl))|refine yY Tryz.func112 (htr ..) ?_|refine yY Tryz.func113 (hjo ..) ?_|refine yY Tryz.func114 (hgr ..) ?_|(apply qb;apply zl;rfl;rfl;(simp only [List.length_append,List.length_cons,List.length_nil];omega);exact nle rfl))|((first|refine qk ?_ ?_|refine qj ?_ ?_|refine xsC ?_ ?_);all_goals (intro hc;have hp:=hc;try simp at hp;try (exfalso;omega)))|refine jc ?_ ?_)
     all_goals try (exfalso;omega)
     all_goals ((refine xG (rs:=[.tmp 4,.tmp 5]) ?_;(repeat' (first|exact jl|apply qT|exact je rfl|exact xq|exact kz|apply yC|apply xA|apply yi|apply xy|apply yL|apply xz|refine ky ?_|apply vn));all_goals (simp_all [YG])))
 ·rw [show yF p n = qn p from by simp [yF,h0]]
  refine qa Tryz.func88 rfl _ Tryz.ntmps88 (Nat.le_of_ble_eq_true rfl) _ Tryz.results88 0 rfl rfl ?_
  repeat' (first|refine qu ?_|(first|(refine yu ?_)|refine xP Tryz.func109 (hch ..) ?_)|((first|refine qk ?_ ?_|refine qj ?_ ?_|refine xsC ?_ ?_);all_goals (intro hc;have hp:=hc;try simp at hp;try (exfalso;omega)))|refine jc ?_ ?_)
  all_goals try (exfalso;omega)
  all_goals ((refine xG (rs:=[.tmp 4,.tmp 5]) ?_;(repeat' (first|exact jl|apply qT|exact je rfl|exact xq|exact kz|apply yC|apply xA|apply yi|apply xy|apply yL|apply xz|refine ky ?_|apply vn));all_goals (simp_all [YG])))
end Go.Proofs.YtnhpclmbhbblbaaGreatDoor
set_option linter.unusedSimpArgs false
set_option linter.unnecessarySimpa false
set_option maxHeartbeats 1000000
namespace Go.Proofs.YtnhpclmbhbblbaaGreatDoor
open Go.Ab Go.RowKit
set_option maxRecDepth 10000
attribute [local irreducible] Awp jW jh jn Red qD Go.Ab.Fin qI Rz x4 ji jf ResOk jQ jq yl jg
def qbO (p:qx) (i:Nat):Nat:=i - (qY (p.take i)).length
def nsL (p:qx) (i:Nat):List qx:=(qg (p.take i)).dropLast
@[simp] theorem qbU (p:qx):nsL p 0 = []:=rfl
@[simp] theorem qbq (p:qx):qbO p 0 = 0:=rfl
@[simp] theorem qbb (s:qx):cellsOf (AV.v (str s)) = [AV.v (str s)]:=rfl
theorem XD (p:qx):(qg p).length ≤ p.length + 1:=by
 rw [kI]
 have:p.count 47 ≤ p.length:=List.count_le_length
 omega
end Go.Proofs.YtnhpclmbhbblbaaGreatDoor
set_option linter.unusedSimpArgs false
set_option linter.unnecessarySimpa false
set_option maxHeartbeats 1000000
namespace Go.Proofs.YtnhpclmbhbblbaaGreatDoor
open Go.Ab Go.RowKit
set_option maxRecDepth 10000
attribute [local irreducible] Awp jW jh jn Red qD Go.Ab.Fin qI Rz x4 ji jf ResOk jQ jq yl jg
end Go.Proofs.YtnhpclmbhbblbaaGreatDoor
set_option linter.unusedSimpArgs false
set_option linter.unnecessarySimpa false
set_option maxHeartbeats 1000000
namespace Go.Proofs.YtnhpclmbhbblbaaGreatDoor
open Go.Ab Go.RowKit
set_option maxRecDepth 10000
attribute [local irreducible] Awp jW jh jn Red qD Go.Ab.Fin qI Rz x4 ji jf ResOk jQ jq yl jg
theorem qam (s:qx):x6 C.P 118 [.v (str s)] (.v (.bool false)):=by
 refine qa Tryz.func118 rfl _ Tryz.ntmps118 (Nat.le_of_ble_eq_true rfl) _ Tryz.results118 0 rfl rfl ?_
 repeat' (first|refine qu ?_|fail|((first|refine xsC ?_ ?_);all_goals (intro hc;have hp:=hc;try simp at hp;try (exfalso;omega)))|refine jc ?_ ?_)
 all_goals (apply yH;rfl;simp)
theorem Kc (a b:qx):x6 C.P 94 [.v (str a),.v (str b)] (.v (.int .i64 (zD a b))):=by
 refine qa Tryz.func94 rfl _ Tryz.ntmps94 (Nat.le_of_ble_eq_true rfl) _ Tryz.results94 0 rfl rfl ?_
 repeat' (first|refine qu ?_|(first|refine yY Tryz.func118 (qam ..) ?_)|((first|refine xsC ?_ ?_);all_goals (intro hc;have hp:=hc;try simp at hp;try (exfalso;omega)))|refine jc ?_ ?_)
 all_goals (apply jV;rfl;simp_all [zD])
theorem JD (n:Int):x6 C.P 73 [.v (.int .i64 n)] (.v (.bool (vF n))):=by
 refine qa Tryz.func73 rfl _ Tryz.ntmps73 (Nat.le_of_ble_eq_true rfl) _ Tryz.results73 0 rfl rfl ?_
 repeat' (first|refine qu ?_|fail|((first|refine qk ?_ ?_|refine qj ?_ ?_|refine xsC ?_ ?_);all_goals (intro hc;have hp:=hc;try simp at hp;try (exfalso;omega)))|refine jc ?_ ?_)
 all_goals (apply yH;rfl;simp_all [vF];try (intro _;omega))
theorem Xe (e:Ent) (he:e.small):x6 C.P 98 [.agg e.row] (.v (.int .i64 (yP e))):=by
 have h1:=he.1
 have h2:=he.2
 have hp:=JE e.path (by omega)
 have hv:=JD e.ver
 have hE:yP e = if qn e.path = 0 then (if e.fold = true ∧ ¬ e.text = [] then 1 else if 300 < e.text.length then 2 else if vF e.ver = true then 0 else 3) else qn e.path:=rfl
 generalize yP e = E at *
 generalize vF e.ver = V at *
 generalize qn e.path = F at *
 refine qa Tryz.func98 rfl _ Tryz.ntmps98 (Nat.le_of_ble_eq_true rfl) _ Tryz.results98 0 rfl rfl ?_
 repeat' (first|refine qu ?_|(first|refine yY Tryz.func119 (hp ..) ?_|refine yY Tryz.func73 (hv ..) ?_)|((first|refine qk ?_ ?_|refine qj ?_ ?_|refine xsC ?_ ?_);all_goals (intro hc;have hp:=hc;try simp at hp;try (exfalso;omega)))|refine jc ?_ ?_)
 all_goals try (exfalso;omega)
 all_goals (apply jV;rfl;rw [hE];simp_all;try omega)
theorem K4 (e:Ent) (p:qx):x6 C.P 93 [.agg e.row,.v (str p)] (.v (.int .i64 (zD e.path p))):=by
 refine qa Tryz.func93 rfl _ Tryz.ntmps93 (Nat.le_of_ble_eq_true rfl) _ Tryz.results93 0 rfl rfl ?_
 repeat' (first|refine qu ?_|(first|refine yY Tryz.func94 (Kc ..) ?_)|((first|refine xsC ?_ ?_);all_goals (intro hc;have hp:=hc;try simp at hp;try (exfalso;omega)))|refine jc ?_ ?_)
 all_goals (apply jV;rfl;rfl)
theorem Kg (l:List Ent) (p:qx) (hl:l.length ≤ 140737488355328) (hs:qS jj l = true) :
  x6 C.P 92 [qo l,.v (str p),.clo (.func 93) [] []] (.tup [.v (.int .i64 (yx l p)),.v (.bool (j9 l p))]):=by
 refine qa Tryz.func92 rfl _ Tryz.ntmps92 (Nat.le_of_ble_eq_true rfl) _ Tryz.results92 0 rfl rfl ?_
 repeat' (first|refine qu ?_|fail|((first|refine qk ?_ ?_|refine qj ?_ ?_|refine xsC ?_ ?_);all_goals (intro hc;have hp:=hc;try simp at hp;try (exfalso;omega)))|refine jc ?_ ?_)
 (refine Awp.red (jt (ts:=[(0,qo l),(1,.v (str p)),(2,.clo (.func 93) [] []),(8,.v (.int .i64 l.length)),(9,.v (.int .i64 ((0:Nat):Int))),(10,.v (.int .i64 l.length))]) ?_) ?_;((repeat (first|exact qp|refine qE ?_|refine ju ?_ ?_))))
 all_goals try (rw [List.length_map];done)
 refine jr (fun n σ => ∃ lo hi:Nat,lo ≤ hi ∧ hi ≤ l.length ∧ n = hi - lo ∧ (∀ (k:Nat) (h:k < l.length),k < lo → Op.bytesLess l[k].path p = true) ∧ (∀ (k:Nat) (h:k < l.length),hi ≤ k → Op.bytesLess l[k].path p = false) ∧ σ = ⟨[(0,qo l),(1,.v (str p)),(2,.clo (.func 93) [] []),(8,.v (.int .i64 l.length)),(9,.v (.int .i64 ((lo:Nat):Int))),(10,.v (.int .i64 ((hi:Nat):Int)))],[],C.nh⟩) l.length ⟨0,l.length,by omega,Nat.le_refl _,rfl,fun _ _ h=>absurd h (by omega),fun _ _ h=>absurd h (by omega),rfl⟩ ?_
 rintro n σ ⟨lo,hi,hle,hhi,rfl,h1,h2,rfl⟩
 by_cases hlt:lo < hi
 ·obtain ⟨m,hm⟩ : ∃ m:Nat,m = (lo + hi) / 2:=⟨_,rfl⟩
  have hmi:((lo:Int) + (hi:Int)) / 2 = (m:Int):=by omega
  have hml:m < l.length:=by omega
  have hr:=yA (f:=Ent.row) hml
  have hr2:(l.map Ent.row)[(((lo:Int) + (hi:Int)) / 2).toNat]? = some l[m].row:=by rw [hmi];exact hr
  repeat' (first|refine qu ?_|(first|(apply qb;first|(apply Kr;rfl;rfl;rfl;rfl;rfl;omega;omega;exact nle rfl)|(apply Kq;rfl;rfl;rfl;rfl;rfl;omega;omega;exact nle rfl))|(apply qb;apply qaD;(case hx=>rfl);(case hy=>rfl);(case hk=>decide);(case hN=>exact nle rfl))|(refine XG Tryz.func93 (K4 ..) ?_))|((first|refine qk ?_ ?_|refine qj ?_ ?_|refine xsC ?_ ?_);all_goals (intro hc;have hp:=hc;try simp at hp;try (exfalso;omega)))|refine jc ?_ ?_)
  all_goals try (exfalso;omega)
  ·have hmg:Op.bytesLess l[m].path p = true:=(Yq _ _).1 hp
   refine ⟨hi - (m + 1),_,by omega,jt (ts:=[(0,qo l),(1,.v (str p)),(2,.clo (.func 93) [] []),(8,.v (.int .i64 l.length)),(9,.v (.int .i64 ((m + 1:Nat):Int))),(10,.v (.int .i64 ((hi:Nat):Int)))]) ?_,m + 1,hi,by omega,hhi,rfl,fun k h hk=>?_,h2,rfl⟩
   · (repeat (first|exact qp|refine qE ?_|refine ju ?_ ?_))
     all_goals (rw [hmi];rfl)
   ·by_cases e:k = m
    ·subst e;exact hmg
    ·exact vr (x0 hs k m h hml (by omega)) hmg
  ·have hmg:Op.bytesLess l[m].path p = false:=(by
    cases h:Op.bytesLess l[m].path p
    ·rfl
    ·have:=(Yq _ _).2 h;omega)
   refine ⟨m - lo,_,by omega,jt (ts:=[(0,qo l),(1,.v (str p)),(2,.clo (.func 93) [] []),(8,.v (.int .i64 l.length)),(9,.v (.int .i64 ((lo:Nat):Int))),(10,.v (.int .i64 ((m:Nat):Int)))]) ?_,lo,m,by omega,by omega,rfl,h1,fun k h hk=>?_,rfl⟩
   · (repeat (first|exact qp|refine qE ?_|refine ju ?_ ?_))
     all_goals (rw [hmi])
   ·by_cases e:k = m
    ·subst e;exact hmg
    ·cases hkg:Op.bytesLess l[k].path p
     ·rfl
     ·rw [vr (x0 hs m k hml h (by omega)) hkg] at hmg;cases hmg
 obtain rfl:lo = hi:=by omega
 have hpos:yx l p = lo:=XM hhi h1 (fun h=>h2 lo h (by omega))
 by_cases hin:lo < l.length
 ·have hr:=yA (f:=Ent.row) hin
  have hhit:j9 l p = decide (zD l[lo].path p = 0):=by
   rw [Vu hs,hpos,List.getElem?_eq_getElem hin]
  repeat' (first|refine qu ?_|(first|(refine XG Tryz.func93 (K4 ..) ?_))|((first|refine qk ?_ ?_|refine qj ?_ ?_|refine xsC ?_ ?_);all_goals (intro hc;have hp:=hc;try simp at hp;try (exfalso;omega)))|refine jc ?_ ?_)
  all_goals try (exfalso;omega)
  rw [hpos,hhit]
  (exact QP (rs:=[.tmp 6,.tmp 7]))
 ·have hhit:j9 l p = false:=by
   rw [Vu hs,hpos,List.getElem?_eq_none (by omega)]
  repeat' (first|refine qu ?_|(first|(refine XG Tryz.func93 (K4 ..) ?_))|((first|refine qk ?_ ?_|refine qj ?_ ?_|refine xsC ?_ ?_);all_goals (intro hc;have hp:=hc;try simp at hp;try (exfalso;omega)))|refine jc ?_ ?_)
  all_goals try (exfalso;omega)
  rw [hpos,hhit]
  (exact QP (rs:=[.tmp 6,.tmp 7]))
theorem Ka (l:List Ent) (p:qx) (hl:l.length ≤ 140737488355328) (hs:qS jj l = true) :
  x6 C.P 63 [qo l,.v (str p)] (.tup [.v (.int .i64 (yx l p)),.v (.bool (j9 l p))]):=by
 have hse:=Kg l p hl hs
 refine qa Tryz.func63 rfl _ Tryz.ntmps63 (Nat.le_of_ble_eq_true rfl) _ Tryz.results63 0 rfl rfl ?_
 repeat' (first|refine qu ?_|(first|refine xP Tryz.func92 (hse ..) ?_)|((first|refine xsC ?_ ?_);all_goals (intro hc;have hp:=hc;try simp at hp;try (exfalso;omega)))|refine jc ?_ ?_)
 (exact QP (rs:=[.tmp 4,.tmp 5]))
end Go.Proofs.YtnhpclmbhbblbaaGreatDoor
set_option linter.unusedSimpArgs false
set_option linter.unnecessarySimpa false
set_option maxHeartbeats 1000000
namespace Go.Proofs.YtnhpclmbhbblbaaGreatDoor
open Go.Ab Go.RowKit
set_option maxRecDepth 10000
attribute [local irreducible] Awp jW jh jn Red qD Go.Ab.Fin qI Rz x4 ji jf ResOk jQ jq yl jg
def v7 (l:List Ent) (p:qx):Ent:=if qy p = [] then ⟨[],true,[],0⟩ else match l.find? (atP (qy p)) with|some x=>x|none=>⟨[],false,[],0⟩
def kL (l:List Ent) (p:qx):Bool:=decide (qy p = []) || j9 l (qy p)
theorem Yg (l:List Ent) (p:qx):yZ l (qy p) = if kL l p = true then (if (v7 l p).fold = true then 0 else 4) else 5:=by
 unfold yZ kL v7
 by_cases h:qy p = []
 ·simp [h]
 ·cases hh:j9 l (qy p) with
  | true =>
    obtain ⟨x,hx,hk⟩:=List.any_eq_true.1 hh
    cases hf:l.find? (atP (qy p)) with
    | none=>rw [List.find?_eq_none] at hf;exact absurd hk (hf x hx)
    | some y=>simp [h]
  | false=>simp [h,(QF hh).1]
theorem YI (l:List Ent) (p:qx) (hl:l.length ≤ 140737488355328) (hs:qS jj l = true) (hp:p.length ≤ 140737488355328) :
  x6 C.P 99 [qo l,.v (str p)] (.tup [.agg (v7 l p).row,.v (.bool (kL l p))]):=by
 have hsp:=ZS p (by omega)
 have hat:=Ka l (qy p) hl hs
 by_cases h:qy p = []
 ·have e1:v7 l p = ⟨[],true,[],0⟩:=by simp [v7,h]
  have e2:kL l p = true:=by simp [kL,h]
  rw [h] at hsp hat
  rw [e1,e2]
  refine qa Tryz.func99 rfl _ Tryz.ntmps99 (Nat.le_of_ble_eq_true rfl) _ Tryz.results99 0 rfl rfl ?_
  repeat' (first|refine qu ?_|(first|refine xP Tryz.func110 (hsp ..) ?_|refine xP Tryz.func63 (hat ..) ?_)|((first|refine xsC ?_ ?_);all_goals (intro hc;have hp:=hc;try simp at hp;try (exfalso;omega)))|refine jc ?_ ?_)
  all_goals try (exfalso;simp_all;done)
  (exact QP (rs:=[.cell 4 59,.tmp 5]))
 ·cases hh:j9 l (qy p) with
  | true =>
    obtain ⟨hk,hpe,hfi, -⟩:=Jn hs hh
    have e1:v7 l p = l[yx l (qy p)]:=by simp [v7,h,hfi]
    have e2:kL l p = true:=by simp [kL,hh]
    rw [hh] at hat
    rw [e1,e2]
    generalize yx l (qy p) = k at *
    have hr:=yA (f:=Ent.row) hk
    refine qa Tryz.func99 rfl _ Tryz.ntmps99 (Nat.le_of_ble_eq_true rfl) _ Tryz.results99 0 rfl rfl ?_
    repeat' (first|refine qu ?_|(first|refine xP Tryz.func110 (hsp ..) ?_|refine xP Tryz.func63 (hat ..) ?_)|((first|refine xsC ?_ ?_);all_goals (intro hc;have hp:=hc;try simp at hp;try (exfalso;omega)))|refine jc ?_ ?_)
    all_goals try (exfalso;first|exact h (by assumption)|(simp_all;done))
    (exact QP (rs:=[.cell 4 59,.tmp 5]))
  | false =>
    have e1:v7 l p = ⟨[],false,[],0⟩:=by simp [v7,h,(QF hh).1]
    have e2:kL l p = false:=by simp [kL,hh,h]
    rw [hh] at hat
    rw [e1,e2]
    refine qa Tryz.func99 rfl _ Tryz.ntmps99 (Nat.le_of_ble_eq_true rfl) _ Tryz.results99 0 rfl rfl ?_
    repeat' (first|refine qu ?_|(first|refine xP Tryz.func110 (hsp ..) ?_|refine xP Tryz.func63 (hat ..) ?_)|((first|refine xsC ?_ ?_);all_goals (intro hc;have hp:=hc;try simp at hp;try (exfalso;omega)))|refine jc ?_ ?_)
    all_goals try (exfalso;first|exact h (by assumption)|(simp_all;done))
    (exact QP (rs:=[.cell 4 59,.tmp 5]))
end Go.Proofs.YtnhpclmbhbblbaaGreatDoor
