import Derived.Test.YtamejbkifpjhiaaGreatDoorMz7
import Derived.RangeFuncNested
import Derived.RangeFuncBound
import Derived.RangeFuncCalls
import Derived.RangeFuncLeaves
import Derived.Shelf.Abstract
import Derived.Shelf.RegionOpen
import Derived.WalkKit
import Derived.OwnWalkIn
import Derived.TacticsInMore
import Derived.LoopNIn
import Derived.LoopIn
import Derived.Test.YtamejbkifpjhiaaGreatDoorMz6
import Derived.Test.YtamejbkifpjhiaaGreatDoorMz1
set_option linter.unusedSimpArgs false
set_option linter.unnecessarySimpa false
namespace Go.Proofs.YtamejbkifpjhiaaGreatDoor
open Go.Ab Go.RowKit Go.Shelf
set_option maxRecDepth 10000
attribute [local go_sem] Oper.semAt_some
abbrev zc (s:qP):Value := .string ⟨s.toArray⟩
abbrev J6 (b:Nat):Value := .pointer (some ⟨b,0,none⟩)
theorem KJ (p:qP) (w:World):Calls Tryz.prog 219 #[zc p,zc kR,.int .i64 0] w fun e w' =>
  e = .returned (.func (.func 236) #[] #[J6 (w.heap.size + 1),J6 w.heap.size,J6 (w.heap.size + 2)]) ∧ w' = ((w.alloc (.cells #[zc p] 9)).alloc (.cells #[zc kR] 9)).alloc (.cells #[.int .i64 0] 3):=by
 go_enter Tryz.func219,Tryz.ntmps219
 go_wp2
 go_ret
 refine ⟨rfl,rfl⟩
theorem Z4 (p:qP) (w:World):Calls Tryz.prog 190 #[zc p,zc kR] w fun e w' =>
  e = .returned (.func (.func 236) #[] #[J6 (w.heap.size + 1),J6 w.heap.size,J6 (w.heap.size + 2)]) ∧ w' = ((w.alloc (.cells #[zc p] 9)).alloc (.cells #[zc kR] 9)).alloc (.cells #[.int .i64 0] 3):=by
 go_enter Tryz.func190,Tryz.ntmps190
 go_wp2_with (go_at_call 219;refine (KJ _ _).mono ?_;rintro e w' ⟨rfl,rfl⟩)
 go_ret
 refine ⟨rfl,rfl⟩
theorem Zq (s:qP) (c:UInt8) (w:World):Calls Tryz.prog 179 #[zc s,.int .u8 (c.toNat:Int)] w fun e w'=>e = .returned (.int .i64 (Lib.indexByte s c)) ∧ w' = w:=by
 go_enter Tryz.func179,Tryz.ntmps179
 go_wp2
 rw [run_callFunc_extern Tryz.func211 (by kernel_rfl) (by kernel_rfl) (by kernel_rfl) (e:=Extern.BytealgIndexByte.indexByte) (by kernel_rfl),Lib.run_indexByteString]
 simp only [Result.andThen]
 rw [Oper.upon_value]
 go_wp2
 go_ret
 refine ⟨?_,rfl⟩
 simp
theorem qaN (s:qP) (w:World):Calls Tryz.prog 156 #[zc s,zc kR] w fun e w'=>e = .returned (.int .i64 (Lib.indexByte s 47)) ∧ w' = w:=by
 show Calls _ _ #[zc s,.string ⟨#[47]⟩] w _
 go_enter Tryz.func156,Tryz.ntmps156
 go_wp2_with (go_at_call 179;refine (Zq s 47 _).mono ?_;rintro e w' ⟨rfl,rfl⟩)
 ·go_ret
  refine ⟨?_,rfl⟩
  have e:([47]:qP) = s:=by first|assumption|(simp_all;done)
  subst e
  rfl
 ·go_ret
  exact ⟨rfl,rfl⟩
theorem ZL (s:qP) (w:World):Calls Tryz.prog 225 #[zc s,zc kR] w fun e w'=>e = .returned (.int .i64 (Lib.indexByte s 47)) ∧ w.grownBy w' none:=by
 go_enter Tryz.func225,Tryz.ntmps225
 go_wp2_with (go_at_call 156;refine (qaN _ _).mono ?_;rintro e w' ⟨rfl,rfl⟩)
 go_ret
 exact ⟨rfl,⟨rfl,rfl,rfl,Nat.le_refl _,fun _ _ _=>rfl⟩⟩
theorem Wv (s:qP):(Lib.indexByte s 47 = -1 ∧ (47:UInt8) ∉ s) ∨ ∃ a b,s = a ++ 47 :: b ∧ (47:UInt8) ∉ a ∧ Lib.indexByte s 47 = a.length:=by
 induction s with
 | nil=>exact .inl ⟨rfl,by simp⟩
 | cons c s ih =>
   by_cases hc:c = 47
   ·subst hc;exact .inr ⟨[],s,rfl,by simp,by simp [Lib.indexByte]⟩
   ·rcases ih with ⟨h1,h2⟩|⟨a,b,h1,h2,h3⟩
    ·exact .inl ⟨by simp [Lib.indexByte,hc,h1],by simp only [List.mem_cons,not_or];exact ⟨fun e=>hc e.symm,h2⟩⟩
    ·refine .inr ⟨c :: a,b,by simp [h1],by simp only [List.mem_cons,not_or];exact ⟨fun e=>hc e.symm,h2⟩,?_⟩
     have:¬ Lib.indexByte s 47 = -1:=by omega
     simp [Lib.indexByte,hc,this,h3]
theorem xL {W:World} {b T:Nat} {v:Value} (h:W.heap[b]? = some (.cells #[v] T (0,0))):W.cell? ⟨b,0,none⟩ = some v ∧ W.frozen? ⟨b,0,none⟩ = false:=by simp [World.cell?,World.frozen?,h]
theorem kept {A B:World} {k:Nat} {o:Obj} (hg:A.grownBy B Option.none) (h:A.heap[k]? = some o):B.heap[k]? = some o:=(hg.block k (Array.getElem?_eq_some_iff.1 h).1 (by simp)).trans h
theorem _root_.Go.World.grownBy.weaken {A B:World} (h:A.grownBy B Option.none) (r:Option Nat):A.grownBy B r:=⟨h.os,h.tape,h.output,h.size,fun k hk _=>h.block k hk (by simp)⟩
theorem wrap64_in {x:Int} (h1:0 ≤ x) (h2:x ≤ 9223372036854775807):wrap64 x = x:=IntWalk.wrap64_in x ⟨by omega,by omega⟩
theorem Q3 (l:List UInt8) (a b:Nat):ByteArray.extract ⟨l.toArray⟩ a b = ⟨((l.take b).drop a).toArray⟩:=by
 have h:(ByteArray.extract ⟨l.toArray⟩ a b).data = ((l.take b).drop a).toArray:=by simp [List.drop_take]
 calc ByteArray.extract ⟨l.toArray⟩ a b = ⟨(ByteArray.extract ⟨l.toArray⟩ a b).data⟩:=rfl
  _ = _:=by rw [h]
theorem heap_set {W:World} {b T:Nat} {v:Value} (h:W.heap[b]? = some (.cells #[v] T (0,0))) (u:Value):(W.setCell ⟨b,0,none⟩ u).heap[b]? = some (.cells #[u] T (0,0)):=by
 obtain ⟨hlt,hb⟩:=Array.getElem?_eq_some_iff.1 h
 show (W.heap.modify b _)[b]? = _
 rw [Array.getElem?_eq_getElem (by rw [Array.size_modify];exact hlt),Array.getElem_modify_self,hb]
 rfl
theorem wI (W:World) {b k:Nat} (u:Value) (h:k ≠ b):(W.setCell ⟨b,0,none⟩ u).heap[k]? = W.heap[k]?:=Below.heap_setCell W ⟨b,0,none⟩ u k h
def qec (S:Nat) (w:World):Nat:=match w.cell? ⟨S,0,none⟩ with|some (.string s)=>s.size|_=>0
theorem qbl (n:Nat) (hn:1 ≤ n) (p:qP) (hp:p.length ≤ 140737488355328) (w0:World) (S:Nat) (h0:w0.heap[S]? = some (.cells #[zc p] 9 (0,0))) (h1:w0.heap[S + 1]? = some (.cells #[zc kR] 9 (0,0))) (h2:w0.heap[S + 2]? = some (.cells #[.int .i64 0] 3 (0,0))) :
  KX Fence.wide n Tryz.prog 236 #[J6 (S + 1),J6 S,J6 (S + 2)] S (qu p) w0:=by
 intro l J Jx W hW hJ hJx hY hJ0
 have hS:W.heap[S]? = some (.cells #[zc p] 9 (0,0)):=(hW S (by omega) (by omega)).trans h0
 have hS1:W.heap[S + 1]? = some (.cells #[zc kR] 9 (0,0)):=(hW (S + 1) (by omega) (by omega)).trans h1
 have hS2:W.heap[S + 2]? = some (.cells #[.int .i64 0] 3 (0,0)):=(hW (S + 2) (by omega) (by omega)).trans h2
 have c1:=(xL hS1).1
 have hsl:List.length kR = 1:=rfl
 refine callsIn_of_wp Tryz.func236 rfl trivial ?_ rfl
 simp only [Tryz.ntmps236,List.size_toArray,List.length_cons,List.length_nil,Nat.reduceAdd,Nat.reduceSub,Array.replicate_succ,Array.replicate_zero,List.push_toArray,List.append_toArray,List.cons_append,List.nil_append]
 gi_wp2
 gi_loopw [7] (fun _ wr => ∃ (pre:List qP) (rest:qP),qu p = pre ++ qu rest ∧ rest.length ≤ p.length ∧ wr.heap[S]? = some (.cells #[zc rest] 9 (0,0)) ∧ wr.heap[S + 1]? = some (.cells #[zc kR] 9 (0,0)) ∧ wr.heap[S + 2]? = some (.cells #[.int .i64 0] 3 (0,0)) ∧ J pre wr) (fun _ wr=>qec S wr)
 case atStart=>exact ⟨[],p,rfl,Nat.le_refl _,hS,hS1,hS2,hJ0⟩
 case round =>
  obtain ⟨pre,rest,hx,hlen,hb,hb1,hb2,hJs⟩:=hrel
  have c0:=(xL hb).1
  have c1:=(xL hb1).1
  have c2:=(xL hb2).1
  rcases Wv rest with ⟨hm,hfree⟩|⟨a,b,rfl,hfa,hi⟩
  ·have hpre:pre ++ [rest] <+: qu p:=by rw [hx,y7 hfree];exact List.prefix_refl _
   gi_wp2_with (refine ⟨trivial,?_⟩;gi_at_call 225;refine (callsIn_wide.2 (ZL _ _)).mono ?_;rintro e w1 ⟨rfl,hg⟩;have hd0:=kept hg hb;have hd1:=kept hg hb1;have hd2:=kept hg hb2;have d0:=(xL hd0).1;have d1:=(xL hd1).1;have d2:=(xL hd2).1;obtain ⟨fn,tmps,assign,body,hy,hR⟩:=hY pre rest w1 (hJ _ _ _ hJs (hg.weaken _)) hpre)
   refine hR.mono ?_
   rintro e W' (⟨rfl,hJ',hk⟩|⟨rfl,hJx'⟩)
   ·gi_wp2
    go_end0
    exact ⟨⟨_,rfl⟩,.inl (by rw [hx,y7 hfree];exact hJ')⟩
   ·gi_wp2
    go_end0
    exact ⟨⟨_,rfl⟩,.inr ⟨_,hpre,hJx'⟩⟩
  ·have hpre:pre ++ [a] <+: qu p:=by rw [hx,kV b hfa];exact ⟨qu b,by simp⟩
   have hw1:wrap64 (a.length:Int) = a.length:=wrap64_in (by omega) (by simp at hlen;omega)
   have hw2:wrap64 ((a.length:Int) + 1) = a.length + 1:=wrap64_in (by omega) (by simp at hlen;omega)
   have hs1:=Q3 (a ++ 47 :: b) 0 a.length
   have hs3:({ data:=List.toArray (a ++ 47 :: b) }:ByteArray).extract (a.length + 1) (a.length + (b.length + 1)) = ⟨b.toArray⟩:=by
    rw [Q3,List.take_of_length_le (by simp),List.drop_append,List.drop_of_length_le (by omega),List.nil_append,show a.length + 1 - a.length = 1 from by omega];rfl
   have hs2:=Q3 (a ++ 47 :: b) (a.length + 1) (a ++ 47 :: b).length
   gi_wp2_with (refine ⟨trivial,?_⟩;gi_at_call 225;refine (callsIn_wide.2 (ZL _ _)).mono ?_;rintro e w1 ⟨rfl,hg⟩;have hd0:=kept hg hb;have hd1:=kept hg hb1;have hd2:=kept hg hb2;have d0:=(xL hd0).1;have d1:=(xL hd1).1;have d2:=(xL hd2).1;obtain ⟨fn,tmps,assign,body,hy,hR⟩:=hY pre a w1 (hJ _ _ _ hJs (hg.weaken _)) hpre)
   refine hR.mono ?_
   rintro e W' (⟨rfl,hJ',hk⟩|⟨rfl,hJx'⟩)
   ·have he0:=(hk S (by omega) (by omega)).trans hd0
    have he1:=(hk (S + 1) (by omega) (by omega)).trans hd1
    have he2:=(hk (S + 2) (by omega) (by omega)).trans hd2
    have e0:=(xL he0).1
    have e1:=(xL he1).1
    have e2:=(xL he2).1
    have f0:=(xL he0).2
    gi_wp2
    go_roundw
    case rel=>exact ⟨pre ++ [a],b,by rw [hx,kV b hfa];simp,by simp at hlen;omega,heap_set he0 _,(wI W' _ (by omega)).trans he1,(wI W' _ (by omega)).trans he2,hJ _ _ _ hJ' (grownBy_setCell' W' S _)⟩
    case measure =>
     simp [qec,(xL (heap_set he0 (zc b))).1,c0,ByteArray.size]
     omega
   ·gi_wp2
    refine bodyPost_ret (results_none rfl _ _ _) rfl ?_
    exact ⟨⟨_,rfl⟩,.inr ⟨_,hpre,hJx'⟩⟩
end Go.Proofs.YtamejbkifpjhiaaGreatDoor
set_option linter.unusedSimpArgs false
set_option linter.unnecessarySimpa false
namespace Go.Proofs.YtamejbkifpjhiaaGreatDoor
open Go.Ab Go.RowKit Go.Shelf
set_option maxRecDepth 10000
attribute [local go_sem] Oper.semAt_some
def qO (s:qP):List AV:=[.v (str s)]
abbrev mk (D:Nat):Deferred := { target := .collected D,args := #[] }
theorem qcn (s:qP) (w:World):Calls Tryz.prog 194 #[zc s,zc kR] w fun e w'=>e = .returned (.int .i64 (s.count 47:Nat)) ∧ w' = w:=by
 show Calls _ _ #[zc s,.string ⟨#[47]⟩] w _
 go_enter Tryz.func194,Tryz.ntmps194
 go_wp2
 rw [run_callFunc_extern Tryz.func224 (by kernel_rfl) (by kernel_rfl) (by kernel_rfl) (e:=Extern.BytealgCount.count) (by kernel_rfl),Lib.run_countString]
 simp only [Result.andThen]
 rw [Oper.upon_value]
 go_wp2
 go_ret
 refine ⟨?_,rfl⟩
 simp [Lib.countByte]
 rfl
theorem ZK (s:qP) (w:World):Calls Tryz.prog 169 #[zc s] w fun e w'=>e = .returned (.bool (j8 s)) ∧ w.grownBy w' none:=by
 have htg:=Jp s
 have hg0:w.grownBy w none:=⟨rfl,rfl,rfl,Nat.le_refl _,fun _ _ _=>rfl⟩
 go_enter Tryz.func169,Tryz.ntmps169
 go_wp2_with (go_at_call 194;refine (qcn s _).mono ?_;rintro e w' ⟨rfl,rfl⟩)
 all_goals go_ret
 all_goals (refine ⟨?_,hg0⟩)
 ·show Ending.returned (Value.bool _) = _
  try rw [htg]
  congr 2
  rw [Bool.eq_iff_iff]
  simp
  omega
 ·show Ending.returned (Value.bool true) = _
  try rw [htg]
  congr 2
  have h6:6 ≤ s.count 47:=by first|omega|(simp_all;done)|(simp_all;omega)
  simp [h6]
theorem YH {F:Fence} {n:Nat} {P:Program} {fn:Func} {tmps:Array Value} {R:Ending → World → Prop} : ∀ (Ds:List Nat) (W:World),Ds.Nodup → (∀ D,D ∈ Ds → W.heap[D]? = some (.deferred (some []))) →
  (∀ W',W.heap.size = W'.heap.size → W'.os = W.os → W'.tape = W.tape → W'.output = W.output → (∀ k,k ∉ Ds → W'.heap[k]? = W.heap[k]?) → LeavesInM F n P fn tmps R [] .returning W') → LeavesInM F n P fn tmps R (Ds.map mk) .returning W
 | [],W,_,_,h=>h W rfl rfl rfl rfl fun _ _=>rfl
 | D :: Ds,W,hn,hd,h=>by
   obtain ⟨h1,h2⟩:=List.nodup_cons.1 hn
   have hK:=hd D (by simp)
   refine ⟨by simp,.inl ⟨D,_,rfl,run_takeDeferred hK,YH Ds _ h2 (fun D' hD'=>(World.putObj_heap_other (by rintro rfl;exact h1 hD')).trans (hd D' (by simp [hD']))) fun W' a1 a2 a3 a4 a5=>?_⟩⟩
   refine h W' (by rw [← a1];simp) a2 a3 a4 fun k hk=>?_
   simp only [List.mem_cons,not_or] at hk
   exact (a5 k hk.2).trans (World.putObj_heap_other hk.1)
structure ChkW (w:World) (e:Int) (Ds:List Nat) (W:World):Prop where
 below:Below w.heap.size w W
 cell:W.heap[w.heap.size]? = some (.cells #[.int .i64 e] 28 (0,0))
 marks : ∀ D,D ∈ Ds → w.heap.size < D ∧ W.heap[D]? = some (.deferred (some []))
theorem ChkW.grown {w:World} {e:Int} {Ds:List Nat} {W W' : World} {row:Option Nat} (h:ChkW w e Ds W) (hg:W.grownBy W' row) (hr : ∀ r,row = some r → w.heap.size < r ∧ r ∉ Ds):ChkW w e Ds W':=by
 have hlt:=(Array.getElem?_eq_some_iff.1 h.cell).1
 refine ⟨h.below.grown hg (by omega) (fun k e=>by have:=(hr k e).1;omega),(hg.block _ hlt (fun e=>by have:=(hr _ e.symm).1;omega)).trans h.cell,fun D hD=>⟨(h.marks D hD).1,?_⟩⟩
 exact (hg.block D (Array.getElem?_eq_some_iff.1 (h.marks D hD).2).1 (fun e=>(hr _ e.symm).2 hD)).trans (h.marks D hD).2
theorem ChkW.lt {w:World} {e:Int} {Ds:List Nat} {W:World} (h:ChkW w e Ds W):w.heap.size < W.heap.size:=(Array.getElem?_eq_some_iff.1 h.cell).1
theorem ChkW.mlt {w:World} {e:Int} {Ds:List Nat} {W:World} (h:ChkW w e Ds W) : ∀ D,D ∈ Ds → D < W.heap.size:=fun D hD=>(Array.getElem?_eq_some_iff.1 (h.marks D hD).2).1
theorem ChkW.set {w:World} {e:Int} {Ds:List Nat} {W:World} (h:ChkW w e Ds W) (e' : Int):ChkW w e' Ds (W.setCell ⟨w.heap.size,0,Option.none⟩ (.int .i64 e')) :=
 ⟨h.below.setCell (Nat.le_refl _) _,heap_set h.cell _,fun D hD=>⟨(h.marks D hD).1,(wI W _ (by have:=(h.marks D hD).1;omega)).trans (h.marks D hD).2⟩⟩
theorem Qv {n:Nat} {tmps:Array Value} {w W:World} {e:Int} {Ds:List Nat} (h:ChkW w e Ds W) (hn:Ds.Nodup) (ht:tmps.getD 2 undef = .pointer (some ⟨w.heap.size,0,Option.none⟩)) :
  LeavesInM Fence.wide n Tryz.prog Tryz.f164 tmps (fun en w'=>en = .returned (.int .i64 e) ∧ w.grownBy w' Option.none) (Ds.map mk) .returning W:=by
 refine YH Ds W hn (fun D hD=>(h.marks D hD).2) fun W' a1 a2 a3 a4 a5=>?_
 have hc:W'.heap[w.heap.size]? = some (.cells #[.int .i64 e] 28 (0,0)):=(a5 _ (fun hm=>absurd (h.marks _ hm).1 (Nat.lt_irrefl _))).trans h.cell
 have hcell:=(xL hc).1
 refine ⟨.int .i64 e,?_,rfl,⟨a2.trans h.below.os,a3.trans h.below.tape,a4.trans h.below.output,by have:=h.below.size;omega,fun k hk _=>(a5 k (fun hm=>by have:=(h.marks k hm).1;omega)).trans (h.below.block k hk)⟩⟩
 simp only [Array.getD_eq_getD_getElem?] at ht
 simp [results,Tryz.results164,go_sem,ht,hcell]
theorem WM {w W X:World} {e e' : Int} {Ds:List Nat} {D:Nat} (hW:ChkW w e Ds W) (hnd:Ds.Nodup) (hX:ChkW w e' Ds X) (hK:X.heap[D]? = some (.deferred (some []))) (hD:W.heap.size ≤ D) :
  ChkW w e' (D :: Ds) X ∧ (D :: Ds).Nodup ∧ mk D :: Ds.map mk = (D :: Ds).map mk:=by
 have:=hW.lt
 refine ⟨⟨hX.below,hX.cell,fun D' hD'=>?_⟩,List.nodup_cons.2 ⟨fun hm=>by have:=hW.mlt _ hm;omega,hnd⟩,rfl⟩
 rcases List.mem_cons.1 hD' with rfl|h
 ·exact ⟨by omega,hK⟩
 ·exact hX.marks D' h
theorem JR {p n:qP} (h:n ∈ qu p):n.length ≤ p.length:=by
 induction p generalizing n with
 | nil=>simp [qu] at h;subst h;simp
 | cons c s ih =>
   simp only [qu] at h
   split at h
   ·rcases List.mem_cons.1 h with rfl|h
    ·simp
    ·have:=ih h;simp;omega
   ·split at h
    ·simp at h;subst h;simp
    ·rename_i m l hm
     rcases List.mem_cons.1 h with rfl|h
     ·have:=ih (n:=m) (by rw [hm];simp);simp;omega
     ·have:=ih (n:=n) (by rw [hm];simp [h]);simp;omega
theorem Jf {ps:List qP} {i:Nat} (h:i < ps.length):xo (ps.drop i) = if qH ps[i] = 0 then xo (ps.drop (i + 1)) else qH ps[i]:=by
 rw [List.drop_eq_getElem_cons h];rfl
theorem ZB (ps:List qP) (hps:ps.length ≤ 1000000) (hsz : ∀ p,p ∈ ps → p.length ≤ 140737488355328) (A:Option Addr) (cap:Nat) (w:World)
  (hA : ∀ i (h:i < ps.length), ∃ bb off,A = some ⟨bb,off,Option.none⟩ ∧ bb < w.heap.size ∧ w.cell? ⟨bb,off + i,Option.none⟩ = some (zc ps[i])) :
  Calls Tryz.prog 164 #[.slice A ps.length cap] w fun e w'=>e = .returned (.int .i64 (xo ps)) ∧ w.grownBy w' Option.none:=by
 refine (callsIn_wide (n:=10)).1 ?_
 refine callsIn_of_wp_marks Tryz.func164 rfl trivial ?_ rfl
 simp only [Tryz.ntmps164,List.size_toArray,List.length_cons,List.length_nil,Nat.reduceAdd,Nat.reduceSub,Array.replicate_succ,Array.replicate_zero,List.push_toArray,List.append_toArray,List.cons_append,List.nil_append]
 gi_wp2
 refine wpIn_loop (fun a W => ∃ (i:Nat) (Ds:List Nat) (u4 u5 u9 u10 u11 u12 u13 u14 u15 u16 u17 u18 u19 u20:Value),i ≤ ps.length ∧ xo ps = xo (ps.drop i) ∧ Ds.Nodup ∧ ChkW w 0 Ds W ∧
  a = { tmps := #[.slice A ps.length cap,undef,.pointer (some ⟨w.heap.size,0,Option.none⟩),undef,u4,u5,.slice A ps.length cap,.int .i64 ps.length,.int .i64 i,u9,u10,u11,u12,u13,u14,u15,u16,u17,u18,u19,u20],defers:=Ds.map mk })
  (fun a _=>ps.length - (intOf (a.tmps.getD 8 undef)).toNat) ⟨0,[],undef,undef,undef,undef,undef,undef,undef,undef,undef,undef,undef,undef,undef,undef,Nat.zero_le _,rfl,List.nodup_nil,?start,rfl⟩ ?round
 case start=>exact ⟨(Below.refl _ w).alloc (Nat.le_refl _) _,World.alloc_heap_new w _,nofun⟩
 case round =>
  rintro a W ⟨i,Ds,u4,u5,u9,u10,u11,u12,u13,u14,u15,u16,u17,u18,u19,u20,hi,herr,hnd,hW,rfl⟩
  have hlt0:=hW.lt
  have cE:=(xL hW.cell).1
  have fE:=(xL hW.cell).2
  by_cases hlt:i < ps.length
  ·obtain ⟨bb,off,hAA,hbb,hcell⟩:=hA i hlt
   subst hAA
   have hc:W.cell? ⟨bb,off + i,Option.none⟩ = some (zc ps[i]):=by rw [World.cell?_of_block (hW.below.block bb hbb)];exact hcell
   gi_wp2_with (refine ⟨trivial,?_⟩;gi_at_call 190;refine (callsIn_wide.2 (Z4 _ _)).mono ?_;rintro e w' ⟨rfl,rfl⟩)
   have hst : ∀ e (X Y:World) row,ChkW w e Ds X → X.grownBy Y row → (∀ r,row = some r → W.heap.size ≤ r) → ChkW w e Ds Y:=fun e X Y row hX hg hr=>hX.grown hg fun r e=>by
    have h1:=hr r e
    exact ⟨by omega,fun hm=>by have:=hW.mlt r hm;omega⟩
   have hpi:=hsz ps[i] (List.getElem_mem hlt)
   have hW3:ChkW w 0 Ds (((W.alloc (.cells #[zc ps[i]] 9)).alloc (.cells #[zc kR] 9)).alloc (.cells #[.int .i64 0] 3)):=hst 0 _ _ Option.none hW ⟨rfl,rfl,rfl,by simp;omega,fun k hk _=>((Below.heap_alloc _ _ k (by simp;omega)).trans (Below.heap_alloc _ _ k (by simp;omega))).trans (Below.heap_alloc _ _ k hk)⟩ nofun
   refine JN (F:=Fence.wide) rfl (by decide) (gf:=236) (lb := #[J6 (W.heap.size + 1),J6 W.heap.size,J6 (W.heap.size + 2)]) rfl trivial (enters_of Tryz.func236 (by kernel_rfl) rfl) (S:=W.heap.size) (names:=qu ps[i]) (by simp) (qbl _ (by decide) ps[i] hpi _ _ ?s0 ?s1 ?s2) rfl
    (fun pre X=>(∀ x,x ∈ pre → yq x = true) ∧ ChkW w 0 Ds X) (fun pre X=>(∃ x,x ∈ pre ∧ yq x = false) ∧ ChkW w 1 Ds X)
    (fun s X Y row h hg hr=>⟨h.1,hst 0 X Y row h.2 hg hr⟩) (fun s X Y row h hg hr=>⟨h.1,hst 1 X Y row h.2 hg hr⟩) ⟨nofun,hW3⟩
    (fun x => { tmps := #[.slice (some ⟨bb,off,Option.none⟩) ps.length cap,undef,.pointer (some ⟨w.heap.size,0,Option.none⟩),undef,zc ps[i],zc x,.slice (some ⟨bb,off,Option.none⟩) ps.length cap,.int .i64 ps.length,.int .i64 i,.bool true,.pointer (some ⟨bb,off + i,Option.none⟩),zc ps[i],zc ps[i],.func (.func 236) #[] #[J6 (W.heap.size + 1),J6 W.heap.size,J6 (W.heap.size + 2)],zc x,u15,u16,u17,u18,u19,u20],defers:=[] }) ?assign ?body ?done ?stop
   case s0=>exact (Below.heap_alloc _ _ _ (by simp;omega)).trans ((Below.heap_alloc _ _ _ (by simp)).trans (World.alloc_heap_new W _))
   case s1=>exact (Below.heap_alloc _ _ _ (by simp)).trans (by have:=World.alloc_heap_new (W.alloc (.cells #[zc ps[i]] 9)) (.cells #[zc kR] 9);rwa [World.size_alloc] at this)
   case s2=>exact (by have:=World.alloc_heap_new ((W.alloc (.cells #[zc ps[i]] 9)).alloc (.cells #[zc kR] 9)) (.cells #[.int .i64 0] 3);rwa [World.size_alloc,World.size_alloc] at this)
   case assign =>
    intro l x X K hK
    gi_wp2
    exact hK
   case body =>
    rintro l pre x X ⟨hpre,hX⟩ hpx hsX
    have hxn:x ∈ qu ps[i]:=hpx.subset (by simp)
    have hxl:x.length ≤ 9223372036854775807:=by have:=JR hxn;omega
    have cX:=(xL hX.cell).1
    have fX:=(xL hX.cell).2
    cases hb:yq x
    ·gi_wp2_with (refine ⟨trivial,?_⟩;gi_at_call 191;refine (CallsIn.inRound l (callsIn_wide.2 (VN x _ hxl))).mono ?_;rintro e w1 ⟨rfl,rfl⟩)
     exact ⟨⟨by simp [World.setCell],fun k hk hle=>wI X _ (by omega)⟩,⟨x,by simp,hb⟩,hX.set 1⟩
    ·gi_wp2_with (refine ⟨trivial,?_⟩;gi_at_call 191;refine (CallsIn.inRound l (callsIn_wide.2 (VN x _ hxl))).mono ?_;rintro e w1 ⟨rfl,rfl⟩)
     exact ⟨⟨Nat.le_refl _,fun _ _ _=>rfl⟩,fun y hy=>(List.mem_append.1 hy).elim (hpre y) (fun e=>by rw [List.mem_singleton.1 e];exact hb),hX⟩
   case done =>
    rintro X ⟨hpre,hX⟩ hK
    obtain ⟨hX',hnd', -⟩:=WM hW hnd hX (D:=W.heap.size + 3) (by simpa using hK) (by omega)
    have hall:(qu ps[i]).all yq = true:=List.all_eq_true.2 hpre
    cases hgt:j8 ps[i]
    ·have hpe:qH ps[i] = 0:=by simp [qH,hall,hgt]
     gi_wp2_with (refine ⟨trivial,?_⟩;gi_at_call 169;refine (callsIn_wide.2 (ZK _ _)).mono ?_;rintro e w1 ⟨rfl,hg⟩;have hY:=hX'.grown hg nofun)
     refine ⟨⟨i + 1,(W.heap.size + 3) :: Ds,_,_,_,_,_,_,_,_,_,_,_,_,_,_,by omega,by rw [herr,Jf hlt,hpe];rfl,hnd',hY,rfl⟩,?_⟩
     simp [intOf]
     omega
    ·have hpe:qH ps[i] = 2:=by simp [qH,hall,hgt]
     have hz:xo ps = 2:=by rw [herr,Jf hlt,hpe];rfl
     gi_wp2_with (refine ⟨trivial,?_⟩;gi_at_call 169;refine (callsIn_wide.2 (ZK _ _)).mono ?_;rintro e w1 ⟨rfl,hg⟩;have hY:=hX'.grown hg nofun;have cY:=(xL hY.cell).1;have fY:=(xL hY.cell).2)
     rw [hz]
     exact Qv (hY.set 2) hnd' rfl
   case stop =>
    rintro pre X hpre ⟨⟨x,hx,hb⟩,hX⟩ hK
    obtain ⟨hX',hnd', -⟩:=WM hW hnd hX (D:=W.heap.size + 3) (by simpa using hK) (by omega)
    have hall:¬ (qu ps[i]).all yq = true:=fun h=>by
     have:=List.all_eq_true.1 h x (hpre.subset hx)
     rw [hb] at this;cases this
    have hpe:qH ps[i] = 1:=by simp only [qH,hall];rfl
    have hz:xo ps = 1:=by rw [herr,Jf hlt,hpe];rfl
    gi_wp2
    rw [hz]
    simp only [World.size_alloc]
    exact Qv hX' hnd' rfl
  ·have hz:xo ps = 0:=by rw [herr,List.drop_of_length_le (by omega)];rfl
   gi_wp2
   rw [hz]
   exact Qv (hW.set 0) hnd rfl
theorem qbz (ps:List qP) (hps:ps.length ≤ 1000000) (hsz : ∀ p,p ∈ ps → p.length ≤ 140737488355328):xH C.P 164 [.sl false (ps.map qO)] (.v (.int .i64 (xo ps))):=by
 refine Wd rfl fun F ρ vs w hag hl hm=>?_
 obtain ⟨v,rfl⟩ : ∃ v,vs = [v]:=by
  match vs,hl with
  | [v],_=>exact ⟨v,rfl⟩
 have h1:=hm 0 v _ rfl rfl
 rcases h1.sl_inv with ⟨h0,ad,cap,hv,_⟩|⟨b,o,cap,c,e',fr,kk,hb,_,_,hsz',hkk,hR,hv⟩
 ·have hnil:ps = []:=List.map_eq_nil_iff.1 h0
  subst hnil
  rw [hv]
  exact ZB [] hps hsz ad cap w (fun i h=>absurd h (Nat.not_lt_zero _))
 ·rw [hv]
  have hk1 : ∀ i,i < ps.length → kk = 1:=fun i hi=>(hkk _ (List.getElem_mem (l:=ps.map qO) (n:=i) (by simpa using hi))).symm.trans (by simp [qO])
  have hbw:=hag b _ hb
  have:=ZB ps hps hsz (some ⟨b,o,Option.none⟩) cap w (fun i hi=>⟨b,o,rfl,(Array.getElem?_eq_some_iff.1 hbw).1,?_⟩)
  ·rw [List.length_map];exact this
  ·have hk:=hk1 i hi
   subst hk
   have hlt:o + i < c.size:=by simp at hsz';omega
   have hcv:c[o + i]? = some c[o + i]:=Array.getElem?_eq_getElem hlt
   have hrow:(ps.map qO)[i]? = some (qO ps[i]):=by simp [hi]
   have hMv:=hR i 0 (qO ps[i]) (.v (str ps[i])) c[o + i] hrow rfl (by simpa using hcv)
   have:=hMv.v_inv.1
   simp [World.cell?,hbw,hcv,this,str]
end Go.Proofs.YtamejbkifpjhiaaGreatDoor
set_option linter.unusedSimpArgs false
set_option linter.unnecessarySimpa false
set_option maxHeartbeats 1000000
namespace Go.Proofs.YtamejbkifpjhiaaGreatDoor
open Go.Ab Go.RowKit
set_option maxRecDepth 10000
attribute [local irreducible] Awp yH jH jw Red ja Go.Ab.Fin qZ Rz vn jr jp ResOk j3 jC yC jA
theorem qeS (s:qP) (c:UInt8) (hs:s.length ≤ 9223372036854775807):xH C.P 195 [.v (str s),.v (.int .u8 (c.toNat:Int))] (.v (.int .i64 (yn c s))):=by
 refine qc Tryz.func195 rfl _ Tryz.ntmps195 (Nat.le_of_ble_eq_true rfl) _ Tryz.results195 0 rfl rfl ?_
 repeat' (first|refine qn ?_|fail|((first|refine xsC ?_ ?_);all_goals (intro hc;have hp:=hc;try simp at hp;try (exfalso;omega)))|refine qX ?_ ?_)
 (refine Awp.red (qI (ts:=[(0,.v (str s)),(1,.v (.int .u8 (c.toNat:Int))),(5,.v (.int .i64 ((s.length:Int) - 1 - ((0:Nat):Int))))]) ?_) ?_;((repeat (first|exact qg|refine qo ?_|refine qY ?_ ?_))))
 all_goals try (apply x5;omega)
 refine qV (fun n σ => ∃ i:Nat,i ≤ s.length ∧ n = s.length - i ∧ (c ∉ s.drop (s.length - i)) ∧ σ = ⟨[(0,.v (str s)),(1,.v (.int .u8 (c.toNat:Int))),(5,.v (.int .i64 ((s.length:Int) - 1 - (i:Int))))],[],C.nh⟩) s.length ⟨0,Nat.zero_le _,rfl,(by simp),rfl⟩ ?_
 rintro n σ ⟨i,hi,rfl,hsofar,rfl⟩
 by_cases hlt:i < s.length
 ·have hx:(s.length:Int) - 1 - (i:Int) = ((s.length - 1 - i:Nat):Int):=by omega
  have hk:s.length - 1 - i < s.length:=by omega
  have hr:s[s.length - 1 - i]? = some s[s.length - 1 - i]:=List.getElem?_eq_getElem hk
  rw [hx]
  repeat' (first|refine qn ?_|fail|((first|refine xsC ?_ ?_);all_goals (intro hc;have hp:=hc;try simp at hp;try (exfalso;omega)))|refine qX ?_ ?_)
  all_goals try (exfalso;omega)
  ·apply jY
   rfl
   have hc:s[s.length - 1 - i] = c:=UInt8.toNat.inj (by omega)
   exact (qaO hk hc (by rw [show s.length - 1 - i + 1 = s.length - i from by omega];exact hsofar)).symm
  ·have hc:¬ s[s.length - 1 - i] = c:=fun e=>by subst e;omega
   have hnext:c ∉ s.drop (s.length - (i + 1)):=by
    rw [show s.length - (i + 1) = s.length - 1 - i from by omega,List.drop_eq_getElem_cons hk,show s.length - 1 - i + 1 = s.length - i from by omega]
    simp only [List.mem_cons,not_or]
    exact ⟨fun e=>hc e.symm,hsofar⟩
   refine ⟨s.length - (i + 1),_,by omega,qI (ts:=[(0,.v (str s)),(1,.v (.int .u8 (c.toNat:Int))),(5,.v (.int .i64 ((s.length:Int) - 1 - ((i + 1:Nat):Int))))]) ?_,i + 1,by omega,rfl,hnext,rfl⟩;((repeat (first|exact qg|refine qo ?_|refine qY ?_ ?_));all_goals (apply x5;omega))
 obtain rfl:i = s.length:=by omega
 rw [show (s.length:Int) - 1 - (s.length:Int) = -1 from by omega]
 repeat' (first|refine qn ?_|fail|((first|refine xsC ?_ ?_);all_goals (intro hc;have hp:=hc;try simp at hp;try (exfalso;omega)))|refine qX ?_ ?_)
 all_goals try (exfalso;omega)
 apply jY
 rfl
 have:c ∉ s:=by simpa using hsofar
 exact (vX this).symm
theorem qdn (s:qP) (c:UInt8) (hs:s.length ≤ 9223372036854775807):xH C.P 170 [.v (str s),.v (.int .u8 (c.toNat:Int))] (.v (.int .i64 (yn c s))):=by
 refine qc Tryz.func170 rfl _ Tryz.ntmps170 (Nat.le_of_ble_eq_true rfl) _ Tryz.results170 0 rfl rfl ?_
 repeat' (first|refine qn ?_|(first|refine jv Tryz.func195 (qeS s c hs ..) ?_)|((first|refine xsC ?_ ?_);all_goals (intro hc;have hp:=hc;try simp at hp;try (exfalso;omega)))|refine qX ?_ ?_)
 apply jY
 rfl
 rfl
theorem qbC (s:qP) (hs:s.length ≤ 9223372036854775800):xH C.P 163 [.v (str s)] (.tup [.v (str (qJ s)),.v (str (jb s))]):=by
 have hl:=qdn s 47 (by omega)
 have hbd:=wn 47 s
 have hpd:qJ s = s.take (yn 47 s).toNat:=rfl
 have hld:jb s = s.drop (yn 47 s + 1).toNat:=rfl
 generalize yn 47 s = k at hl hbd hpd hld
 refine qc Tryz.func163 rfl _ Tryz.ntmps163 (Nat.le_of_ble_eq_true rfl) _ Tryz.results163 0 rfl rfl ?_
 repeat' (first|refine qn ?_|(first|refine jv Tryz.func170 (hl ..) ?_|(apply qi;apply Yw;(case hx=>rfl);(case hy=>rfl);(case hN=>exact nle rfl))|(apply qi;apply jq (a:=0) (b:=k.toNat);(case hx=>rfl);(case hT=>rfl);(case he=>rfl);(case ha=>rfl);(case hb=>exact ⟨_,rfl⟩);(case hab=>(first|omega|(simp;done)|(simp only [List.length_cons,List.length_nil,List.length_map];omega)|(simp;omega)));(case hbl=>(first|omega|(simp;done)|(simp only [List.length_cons,List.length_nil,List.length_map];omega)|(simp;omega)));(case hN=>exact nle rfl))|(apply qi;apply jq (a:=(k + 1).toNat) (b:=s.length);(case hx=>rfl);(case hT=>rfl);(case he=>rfl);(case ha=>exact ⟨_,x5 (by omega)⟩);(case hb=>rfl);(case hab=>(first|omega|(simp;done)|(simp only [List.length_cons,List.length_nil,List.length_map];omega)|(simp;omega)));(case hbl=>(first|omega|(simp;done)|(simp only [List.length_cons,List.length_nil,List.length_map];omega)|(simp;omega)));(case hN=>exact nle rfl)))|((first|refine xsC ?_ ?_);all_goals (intro hc;have hp:=hc;try simp at hp;try (exfalso;omega)))|refine qX ?_ ?_)
 all_goals try (exfalso;omega)
 (refine xa (rs:=[.tmp 2,.tmp 3]) ?_;(repeat' (first|exact q5|apply qA|exact q4 rfl|exact yE|exact zz|apply jX|apply y5|apply jO|apply y3|apply yz|apply y4|refine zr ?_|apply x8));all_goals (first|exact hpd.symm|(rw [hld,List.take_length])))
theorem qdm (p n:qP) (hp:p.length ≤ 140737488355328) (hn:n.length ≤ 1407374883553280):xH C.P 172 [.v (str p),.v (str n)] (.v (str (zK p n))):=by
 refine qc Tryz.func172 rfl _ Tryz.ntmps172 (Nat.le_of_ble_eq_true rfl) _ Tryz.results172 0 rfl rfl ?_
 repeat' (first|refine qn ?_|fail|((first|refine xsC ?_ ?_);all_goals (intro hc;have hp:=hc;try simp at hp;try (exfalso;omega)))|refine qX ?_ ?_)
 · (refine xa (rs:=[.tmp 4]) ?_;(repeat' (first|exact q5|apply qA|exact q4 rfl|exact yE|exact zz|apply jX|apply y5|apply jO|apply y3|apply yz|apply y4|refine zr ?_|apply x8));all_goals (simp_all [zK]))
 · (refine xa (rs:=[.tmp 4]) ?_;(repeat' (first|exact q5|apply qA|exact q4 rfl|exact yE|exact zz|apply jX|apply y5|apply jO|apply y3|apply yz|apply y4|refine zr ?_|apply x8));all_goals (simp_all [zK]))
end Go.Proofs.YtamejbkifpjhiaaGreatDoor
set_option linter.unusedSimpArgs false
set_option linter.unnecessarySimpa false
set_option maxHeartbeats 1000000
namespace Go.Proofs.YtamejbkifpjhiaaGreatDoor
open Go.Ab Go.RowKit
set_option maxRecDepth 10000
attribute [local irreducible] Awp yH jH jw Red ja Go.Ab.Fin qZ Rz vn jr jp ResOk j3 jC yC jA
theorem WZ (q s:qP):q.isPrefixOf s = (decide (q.length ≤ s.length) && decide (s.take q.length = q)):=by
 rw [Bool.eq_iff_iff,List.isPrefixOf_iff_prefix,Bool.and_eq_true,decide_eq_true_iff,decide_eq_true_iff,List.prefix_iff_eq_take]
 constructor
 ·intro h
  have h2:=congrArg List.length h
  rw [List.length_take] at h2
  exact ⟨by omega,h.symm⟩
 ·rintro ⟨_,h⟩;exact h.symm
theorem qcd (s q:qP):xH C.P 177 [.v (str s),.v (str q)] (.v (.bool (q.isPrefixOf s))):=by
 have hpt:=WZ q s
 refine qc Tryz.func177 rfl _ Tryz.ntmps177 (Nat.le_of_ble_eq_true rfl) _ Tryz.results177 0 rfl rfl ?_
 repeat' (first|refine qn ?_|(first|(apply qi;apply jq (a:=0) (b:=q.length);(case hx=>rfl);(case hT=>rfl);(case he=>rfl);(case ha=>rfl);(case hb=>exact ⟨_,rfl⟩);(case hab=>(first|omega|(simp;done)|(simp only [List.length_cons,List.length_nil,List.length_map];omega)|(simp;omega)));(case hbl=>(first|omega|(simp;done)|(simp only [List.length_cons,List.length_nil,List.length_map];omega)|(simp;omega)));(case hN=>exact nle rfl)))|((first|refine qf ?_ ?_|refine qe ?_ ?_|refine xsC ?_ ?_);all_goals (intro hc;have hp:=hc;try simp at hp;try (exfalso;omega)))|refine qX ?_ ?_)
 all_goals try (exfalso;omega)
 ·apply j6
  rfl
  have:q.length ≤ s.length:=by omega
  rw [hpt];simp [this]
 ·apply j6
  rfl
  have:¬ q.length ≤ s.length:=by omega
  rw [hpt];simp [this]
theorem qdr (s q:qP):xH C.P 154 [.v (str s),.v (str q)] (.v (.bool (q.isPrefixOf s))):=by
 refine qc Tryz.func154 rfl _ Tryz.ntmps154 (Nat.le_of_ble_eq_true rfl) _ Tryz.results154 0 rfl rfl ?_
 repeat' (first|refine qn ?_|(first|refine jv Tryz.func177 (qcd s q ..) ?_)|((first|refine xsC ?_ ?_);all_goals (intro hc;have hp:=hc;try simp at hp;try (exfalso;omega)))|refine qX ?_ ?_)
 apply j6
 rfl
 rfl
theorem qau (p q:qP) (hq:q.length ≤ 140737488355328):xH C.P 123 [.v (str p),.v (str q)] (.v (.bool (inB p q))):=by
 have hpr:=qdr p (q ++ [47])
 refine qc Tryz.func123 rfl _ Tryz.ntmps123 (Nat.le_of_ble_eq_true rfl) _ Tryz.results123 0 rfl rfl ?_
 repeat' (first|refine qn ?_|(first|refine jv Tryz.func154 (hpr ..) ?_)|((first|refine qf ?_ ?_|refine qe ?_ ?_|refine xsC ?_ ?_);all_goals (intro hc;have hp:=hc;try simp at hp;try (exfalso;omega)))|refine qX ?_ ?_)
 all_goals (apply j6;rfl;simp_all [inB])
theorem KC (p:qP):xo [p] = qH p:=by
 simp only [xo];split<;>simp_all
theorem K0 (p:qP) (hp:p.length ≤ 140737488355328):xH C.P 164 [.sl false [[.v (str p)]]] (.v (.int .i64 (qH p))):=by
 have:=qbz [p] (by simp) (by simpa using hp)
 rw [KC] at this
 exact this
theorem Vn (p:qP) (hp:p.length ≤ 140737488355328):xH C.P 140 [.v (str p)] (.v (.int .i64 (qH p))):=by
 have hch:=K0 p hp
 refine qc Tryz.func140 rfl _ Tryz.ntmps140 (Nat.le_of_ble_eq_true rfl) _ Tryz.results140 0 rfl rfl ?_
 repeat' (first|refine qn ?_|(first|(refine jL ?_)|refine j1 Tryz.func164 (hch ..) ?_)|((first|refine xsC ?_ ?_);all_goals (intro hc;have hp:=hc;try simp at hp;try (exfalso;omega)))|refine qX ?_ ?_)
 apply jY
 rfl
 rfl
def JK (e:Int) (s:qP):qP:=if e = 0 then s else []
def za (p f t:qP):Int:=if xo [p,f,t] = 0 then (if inB p f then (if j8 (t ++ p.drop f.length) then 2 else 0) else 5) else xo [p,f,t]
theorem qfe {p f:qP} (h:inB p f = true):f.length ≤ p.length:=by
 simp only [inB,Bool.or_eq_true,decide_eq_true_eq,List.isPrefixOf_iff_prefix] at h
 rcases h with rfl|h
 ·exact Nat.le_refl _
 ·have:=h.length_le;simp at this;omega
theorem qbB (p f t:qP) (hp:p.length ≤ 140737488355328) (hf:f.length ≤ 140737488355328) (ht:t.length ≤ 140737488355328):xH C.P 145 [.v (str p),.v (str f),.v (str t)] (.tup [.v (str (JK (za p f t) (t ++ p.drop f.length))),.v (.int .i64 (za p f t))]):=by
 have hch:xH C.P 164 [.sl false [[.v (str p)],[.v (str f)],[.v (str t)]]] (.v (.int .i64 (xo [p,f,t]))):=qbz [p,f,t] (by simp) (by simpa using ⟨hp,hf,ht⟩)
 have hi:=qau p f hf
 have hg:=qbA (t ++ p.drop f.length)
 have hln := @qfe p f
 have htk:p.take p.length = p:=List.take_length
 cases hb:inB p f with
 | false =>
   rw [hb] at hi
   refine qc Tryz.func145 rfl _ Tryz.ntmps145 (Nat.le_of_ble_eq_true rfl) _ Tryz.results145 0 rfl rfl ?_
   repeat' (first|refine qn ?_|(first|(refine jL ?_)|refine j1 Tryz.func164 (hch ..) ?_|refine jv Tryz.func123 (hi ..) ?_)|((first|refine xsC ?_ ?_);all_goals (intro hc;have hp:=hc;try simp at hp;try (exfalso;omega)))|refine qX ?_ ?_)
   all_goals ((refine xa (rs:=[.tmp 6,.tmp 7]) ?_;(repeat' (first|exact q5|apply qA|exact q4 rfl|exact yE|exact zz|apply jX|apply y5|apply jO|apply y3|apply yz|apply y4|refine zr ?_|apply x8));all_goals (simp_all [JK,za])))
 | true =>
   rw [hb] at hi
   have hfl:=hln hb
   have hdl:(p.drop f.length).length ≤ p.length:=by simp
   refine qc Tryz.func145 rfl _ Tryz.ntmps145 (Nat.le_of_ble_eq_true rfl) _ Tryz.results145 0 rfl rfl ?_
   repeat' (first|refine qn ?_|(first|(refine jL ?_)|refine j1 Tryz.func164 (hch ..) ?_|refine jv Tryz.func123 (hi ..) ?_|(apply qi;apply jq (a:=f.length) (b:=p.length);(case hx=>rfl);(case hT=>rfl);(case he=>rfl);(case ha=>exact ⟨_,rfl⟩);(case hb=>rfl);(case hab=>(first|omega|(simp;done)|(simp only [List.length_cons,List.length_nil,List.length_map];omega)|(simp;omega)));(case hbl=>(first|omega|(simp;done)|(simp only [List.length_cons,List.length_nil,List.length_map];omega)|(simp;omega)));(case hN=>exact nle rfl))|(apply jo Tryz.func169 rfl rfl;intro hIsFn;refine qft hIsFn ((htk.symm ▸ hg) ..) ?_;skip))|((first|refine xsC ?_ ?_);all_goals (intro hc;have hp:=hc;try simp at hp;try (exfalso;omega)))|refine qX ?_ ?_)
   all_goals ((refine xa (rs:=[.tmp 6,.tmp 7]) ?_;(repeat' (first|exact q5|apply qA|exact q4 rfl|exact yE|exact zz|apply jX|apply y5|apply jO|apply y3|apply yz|apply y4|refine zr ?_|apply x8));all_goals (simp_all [JK,za])))
end Go.Proofs.YtamejbkifpjhiaaGreatDoor
set_option linter.unusedSimpArgs false
set_option linter.unnecessarySimpa false
set_option maxHeartbeats 1000000
namespace Go.Proofs.YtamejbkifpjhiaaGreatDoor
open Go.Ab Go.RowKit
set_option maxRecDepth 10000
attribute [local irreducible] Awp yH jH jw Red ja Go.Ab.Fin qZ Rz vn jr jp ResOk j3 jC yC jA
def digs1:qP:=[48,49,50,51,52,53,54,55,56,57,97,98,99,100,101,102,103,104,105,106,107,108,109,110,111,112,113,114,115,116,117,118,119,120,121,122]
def digs2:qP:=[48,48,48,49,48,50,48,51,48,52,48,53,48,54,48,55,48,56,48,57,49,48,49,49,49,50,49,51,49,52,49,53,49,54,49,55,49,56,49,57,50,48,50,49,50,50,50,51,50,52,50,53,50,54,50,55,50,56,50,57,51,48,51,49,51,50,51,51,51,52,51,53,51,54,51,55,51,56,51,57,52,48,52,49,52,50,52,51,52,52,52,53,52,54,52,55,52,56,52,57,53,48,53,49,53,50,53,51,53,52,53,53,53,54,53,55,53,56,53,57,54,48,54,49,54,50,54,51,54,52,54,53,54,54,54,55,54,56,54,57,55,48,55,49,55,50,55,51,55,52,55,53,55,54,55,55,55,56,55,57,56,48,56,49,56,50,56,51,56,52,56,53,56,54,56,55,56,56,56,57,57,48,57,49,57,50,57,51,57,52,57,53,57,54,57,55,57,56,57,57]
theorem qdO : ∀ k:Fin 10,(digs1.take (k.val + 1)).drop k.val = ko (k.val:Int):=by decide +kernel
theorem qdP : ∀ k:Fin 100,10 ≤ k.val → (digs2.take (2 * k.val + 2)).drop (2 * k.val) = ko (k.val:Int):=by decide +kernel
theorem qeU (k:Nat) (hk:k < 100):xH C.P 186 [.v (.int .i64 (k:Int))] (.v (str (ko (k:Int)))):=by
 have h1:=fun h:k < 10=>qdO ⟨k,h⟩
 have h2:=qdP ⟨k,hk⟩
 simp only at h1 h2
 have l1:digs1.length = 36:=rfl
 have l2:digs2.length = 200:=rfl
 refine qc Tryz.func186 rfl _ Tryz.ntmps186 (Nat.le_of_ble_eq_true rfl) _ Tryz.results186 0 rfl rfl ?_
 repeat' (first|refine qn ?_|(first|(apply qi;apply jq (l:=digs1) (a:=k) (b:=k + 1);(case hx=>rfl);(case hT=>rfl);(case he=>rfl);(case ha=>exact ⟨_,rfl⟩);(case hb=>exact ⟨_,rfl⟩);(case hab=>omega);(case hbl=>omega);(case hN=>exact nle rfl))|(apply qi;apply qgi;rfl;rfl;omega;omega;exact nle rfl)|(apply qi;apply jq (l:=digs2) (a:=2 * k) (b:=2 * k + 2);(case hx=>rfl);(case hT=>rfl);(case he=>rfl);(case ha=>exact ⟨_,x5 (by omega)⟩);(case hb=>exact ⟨_,x5 (by omega)⟩);(case hab=>omega);(case hbl=>omega);(case hN=>exact nle rfl)))|((first|refine xsC ?_ ?_);all_goals (intro hc;have hp:=hc;try simp at hp;try (exfalso;omega)))|refine qX ?_ ?_)
 · (refine xa (rs:=[.tmp 2]) ?_;(repeat' (first|exact q5|apply qA|exact q4 rfl|exact yE|exact zz|apply jX|apply y5|apply jO|apply y3|apply yz|apply y4|refine zr ?_|apply x8));all_goals exact h1 (by omega))
 · (refine xa (rs:=[.tmp 2]) ?_;(repeat' (first|exact q5|apply qA|exact q4 rfl|exact yE|exact zz|apply jX|apply y5|apply jO|apply y3|apply yz|apply y4|refine zr ?_|apply x8));all_goals exact h2 (by omega))
theorem qdj (k:Nat) (hk:k < 100):xH C.P 162 [.v (.int .i64 (k:Int)),.v (.int .i64 10)] (.v (str (ko (k:Int)))):=by
 have hs:=qeU k hk
 refine qc Tryz.func162 rfl _ Tryz.ntmps162 (Nat.le_of_ble_eq_true rfl) _ Tryz.results162 0 rfl rfl ?_
 repeat' (first|refine qn ?_|(first|refine jv Tryz.func186 (hs ..) ?_)|((first|refine qf ?_ ?_|refine qe ?_ ?_|refine xsC ?_ ?_);all_goals (intro hc;have hp:=hc;try simp at hp;try (exfalso;omega)))|refine qX ?_ ?_)
 all_goals try (exfalso;omega)
 (exact zO (rs:=[.tmp 4]))
theorem qeR (k:Nat) (hk:k < 100):xH C.P 137 [.v (.int .i64 (k:Int))] (.v (str (ko (k:Int)))):=by
 have hs:=qdj k hk
 refine qc Tryz.func137 rfl _ Tryz.ntmps137 (Nat.le_of_ble_eq_true rfl) _ Tryz.results137 0 rfl rfl ?_
 repeat' (first|refine qn ?_|(first|refine jv Tryz.func162 (hs ..) ?_)|((first|refine xsC ?_ ?_);all_goals (intro hc;have hp:=hc;try simp at hp;try (exfalso;omega)))|refine qX ?_ ?_)
 (exact zO (rs:=[.tmp 2]))
theorem qeQ (k:Nat) (hk:k < 100):xH C.P 99 [.v (.int .i64 (k:Int))] (.v (str (ko (k:Int)))):=by
 have hs:=qeR k hk
 refine qc Tryz.func99 rfl _ Tryz.ntmps99 (Nat.le_of_ble_eq_true rfl) _ Tryz.results99 0 rfl rfl ?_
 repeat' (first|refine qn ?_|(first|refine jv Tryz.func137 (hs ..) ?_)|((first|refine xsC ?_ ?_);all_goals (intro hc;have hp:=hc;try simp at hp;try (exfalso;omega)))|refine qX ?_ ?_)
 (exact zO (rs:=[.tmp 2]))
theorem ZN {u:qP} (h:u ≠ []) : ∃ v c,u = v ++ [c] ∧ u[u.length - 1]? = some c ∧ u.take (u.length - 1) = v:=by
 refine ⟨u.dropLast,u.getLast h,(List.dropLast_concat_getLast h).symm,?_,by rw [List.dropLast_eq_take]⟩
 rw [List.getLast_eq_getElem,List.getElem?_eq_getElem (by have:=List.length_pos_iff.2 h;omega)]
theorem qeV (s:qP) (hs:s.length ≤ 140737488355328):xH C.P 196 [.v (str s),.v (.int .u8 32)] (.v (str (zm s))):=by
 refine qc Tryz.func196 rfl _ Tryz.ntmps196 (Nat.le_of_ble_eq_true rfl) _ Tryz.results196 0 rfl rfl ?_
 repeat' (first|refine qn ?_|fail|((first|refine qf ?_ ?_|refine qe ?_ ?_|refine xsC ?_ ?_);all_goals (intro hc;have hp:=hc;try simp at hp;try (exfalso;omega)))|refine qX ?_ ?_)
 (refine Awp.red (qI (ts:=[(0,.v (str (s.take (s.length - 0)))),(1,.v (.int .u8 32))]) ?_) ?_;((repeat (first|exact qg|refine qo ?_|refine qY ?_ ?_))))
 all_goals try (simp;done)
 refine qV (fun n σ => ∃ i:Nat,i ≤ s.length ∧ n = s.length - i ∧ (zm s = zm (s.take (s.length - i))) ∧ σ = ⟨[(0,.v (str (s.take (s.length - i)))),(1,.v (.int .u8 32))],[],C.nh⟩) s.length ⟨0,Nat.zero_le _,rfl,(by simp),rfl⟩ ?_
 rintro n σ ⟨i,hi,rfl,hsofar,rfl⟩
 have hul:(s.take (s.length - i)).length = s.length - i:=by simp
 by_cases hlt:i < s.length
 ·have hnx:(s.take (s.length - i)).take ((s.take (s.length - i)).length - 1) = s.take (s.length - (i + 1)):=by rw [hul,List.take_take];congr 1;omega
  generalize s.take (s.length - i) = u at hul hsofar hnx ⊢
  have hne:u ≠ []:=fun e=>by subst e;simp at hul;omega
  obtain ⟨v,c,huv,hch,hv⟩:=ZN hne
  have htr:=Yc v c
  rw [← huv] at htr
  repeat' (first|refine qn ?_|(first|(apply qi;apply x9 (i:=u.length - 1);(case hx=>rfl);(case hy=>exact x5 (by omega));(case hT=>rfl);(case he=>rfl);(case hc=>exact hch);(case hN=>exact nle rfl))|(apply qi;apply jq (a:=0) (b:=u.length - 1);(case hx=>rfl);(case hT=>rfl);(case he=>rfl);(case ha=>rfl);(case hb=>exact ⟨_,x5 (by omega)⟩);(case hab=>(first|omega|(simp;done)|(simp only [List.length_cons,List.length_nil,List.length_map];omega)|(simp;omega)));(case hbl=>(first|omega|(simp;done)|(simp only [List.length_cons,List.length_nil,List.length_map];omega)|(simp;omega)));(case hN=>exact nle rfl)))|((first|refine qf ?_ ?_|refine qe ?_ ?_|refine xsC ?_ ?_);all_goals (intro hc;have hp:=hc;try simp at hp;try (exfalso;omega)))|refine qX ?_ ?_)
  all_goals try (exfalso;omega)
  all_goals try (exfalso;exact hne (by assumption))
  ·have hc32:c = 32:=UInt8.toNat.inj (by show c.toNat = 32;omega)
   rw [if_pos hc32] at htr
   have hcond:zm s = zm (s.take (s.length - (i + 1))):=by rw [hsofar,htr, ← hnx,hv]
   refine ⟨s.length - (i + 1),_,by omega,qI (ts:=[(0,.v (str (s.take (s.length - (i + 1))))),(1,.v (.int .u8 32))]) ?_,i + 1,by omega,rfl,hcond,rfl⟩;((repeat (first|exact qg|refine qo ?_|refine qY ?_ ?_));all_goals (rw [← hnx];rfl))
  ·have hc32:¬ c = 32:=fun e=>by subst e;simp at hp
   rw [if_neg hc32] at htr
   (refine xa (rs:=[.tmp 4]) ?_;(repeat' (first|exact q5|apply qA|exact q4 rfl|exact yE|exact zz|apply jX|apply y5|apply jO|apply y3|apply yz|apply y4|refine zr ?_|apply x8));all_goals (rw [hsofar,htr]))
 obtain rfl:i = s.length:=by omega
 simp only [Nat.sub_self,List.take_zero] at hsofar ⊢
 repeat' (first|refine qn ?_|fail|((first|refine qf ?_ ?_|refine qe ?_ ?_|refine xsC ?_ ?_);all_goals (intro hc;have hp:=hc;try simp at hp;try (exfalso;omega)))|refine qX ?_ ?_)
 all_goals try (exfalso;omega)
 (refine xa (rs:=[.tmp 4]) ?_;(repeat' (first|exact q5|apply qA|exact q4 rfl|exact yE|exact zz|apply jX|apply y5|apply jO|apply y3|apply yz|apply y4|refine zr ?_|apply x8));all_goals (rw [hsofar];rfl))
theorem qgd (s:qP) (hs:s.length ≤ 140737488355328):xH C.P 171 [.v (str s),.v (str [32])] (.v (str (zm s))):=by
 have hb:=qeV s hs
 refine qc Tryz.func171 rfl _ Tryz.ntmps171 (Nat.le_of_ble_eq_true rfl) _ Tryz.results171 0 rfl rfl ?_
 repeat' (first|refine qn ?_|(first|refine jv Tryz.func196 (hb ..) ?_)|((first|refine qf ?_ ?_|refine qe ?_ ?_|refine xsC ?_ ?_);all_goals (intro hc;have hp:=hc;try simp at hp;try (exfalso;omega)))|refine qX ?_ ?_)
 all_goals try (exfalso;simp_all;done)
 all_goals ((refine xa (rs:=[.tmp 4]) ?_;(repeat' (first|exact q5|apply qA|exact q4 rfl|exact yE|exact zz|apply jX|apply y5|apply jO|apply y3|apply yz|apply y4|refine zr ?_|apply x8));all_goals (first|(have e:s = []:=(by assumption);subst e;rfl)|rfl)))
end Go.Proofs.YtamejbkifpjhiaaGreatDoor
set_option linter.unusedSimpArgs false
set_option linter.unnecessarySimpa false
set_option maxHeartbeats 1000000
namespace Go.Proofs.YtamejbkifpjhiaaGreatDoor
open Go.Ab Go.RowKit
set_option maxRecDepth 10000
attribute [local irreducible] Awp yH jH jw Red ja Go.Ab.Fin qZ Rz vn jr jp ResOk j3 jC yC jA
def vg (p:qP) (n:Int):Int:=if qH p = 0 then (if n < 1 ∨ 99 < n then 3 else vC p n) else qH p
theorem Vx (n:Int):(ko n).length ≤ 2:=by unfold ko;split<;>simp
theorem VU (n:Int):(vo n).length ≤ 5:=by have:=Vx n;simp [vo];omega
theorem XB (s:qP):(zm s).length ≤ s.length:=by
 unfold zm
 rw [List.length_reverse]
 exact Nat.le_trans (List.dropWhile_sublist _).length_le (by simp)
theorem ZD (s:qP):(zk s).length ≤ s.length:=by unfold zk;split<;>simp
theorem J9 (s:qP):(vc s).length ≤ s.length:=by unfold vc;split<;>simp<;>omega
theorem ZC (s:qP) (n:Int):(vI s n).length ≤ s.length:=by
 have:=J9 s
 unfold vI
 split
 ·refine Nat.le_trans (XB _) ?_
  rw [List.length_take];omega
 ·exact this
theorem qby (p:qP) (n:Int) (hp:p.length ≤ 140737488355328):xH C.P 146 [.v (str p),.v (.int .i64 n)] (.tup [.v (str (JK (vg p n) (yI p n))),.v (.int .i64 (vg p n))]):=by
 have hch:=K0 p hp
 by_cases h0:qH p = 0
 ·rw [h0] at hch
  by_cases hn:n < 1 ∨ 99 < n
  ·rw [show vg p n = 3 from by simp [vg,h0,hn]]
   refine qc Tryz.func146 rfl _ Tryz.ntmps146 (Nat.le_of_ble_eq_true rfl) _ Tryz.results146 0 rfl rfl ?_
   repeat' (first|refine qn ?_|(first|(refine jL ?_)|refine j1 Tryz.func164 (hch ..) ?_)|((first|refine qf ?_ ?_|refine qe ?_ ?_|refine xsC ?_ ?_);all_goals (intro hc;have hp:=hc;try simp at hp;try (exfalso;omega)))|refine qX ?_ ?_)
   all_goals try (exfalso;omega)
   all_goals ((refine xa (rs:=[.tmp 4,.tmp 5]) ?_;(repeat' (first|exact q5|apply qA|exact q4 rfl|exact yE|exact zz|apply jX|apply y5|apply jO|apply y3|apply yz|apply y4|refine zr ?_|apply x8));all_goals (simp_all [JK])))
  ·have hpe:vg p n = vC p n:=by simp [vg,h0,hn]
   rw [hpe]
   obtain ⟨k,rfl⟩ : ∃ k:Nat,n = k:=⟨n.toNat,by omega⟩
   have hit:=qeQ k (by omega)
   have hsp:=qbC p (by omega)
   have hnl:(jb p).length ≤ p.length:=by simp [jb]
   have hpl:(qJ p).length ≤ p.length:=by simp [qJ];omega
   have hd2:=Vx (k:Int)
   have hla:=qdn (jb p) 46 (by omega)
   have hbd:=wn 46 (jb p)
   have hml:=VU (k:Int)
   have hmk : [32,40] ++ ko (k:Int) ++ [41] = vo (k:Int):=rfl
   have hel:=ZD (jb p)
   have hsl:=J9 (jb p)
   have hcl:=ZC (jb p) (k:Int)
   have hrm:zM (jb p) (k:Int) = 20 - ((vo (k:Int)).length:Int) - ((zk (jb p)).length:Int):=rfl
   have htr:=qgd ((vc (jb p)).take (zM (jb p) (k:Int)).toNat) (by rw [List.length_take];omega)
   have hjo:=qdm (qJ p) (vI (jb p) (k:Int) ++ vo (k:Int) ++ zk (jb p)) (by omega) (by rw [List.length_append,List.length_append];omega)
   have hgr:=qbA (yI p (k:Int))
   have hj2:zK (qJ p) (vI (jb p) (k:Int) ++ vo (k:Int) ++ zk (jb p)) = yI p (k:Int):=rfl
   rw [hj2] at hjo
   have hae:vC p (k:Int) = if vI (jb p) (k:Int) = [] then 2 else if j8 (yI p (k:Int)) then 2 else 0:=rfl
   have hcut:vI (jb p) (k:Int) = if zM (jb p) (k:Int) < ((vc (jb p)).length:Int) then zm ((vc (jb p)).take (zM (jb p) (k:Int)).toNat) else vc (jb p):=rfl
   have hse:(0 < yn 46 (jb p) → vc (jb p) = (jb p).take (yn 46 (jb p)).toNat ∧ zk (jb p) = ((jb p).take (jb p).length).drop (yn 46 (jb p)).toNat) ∧ (¬ 0 < yn 46 (jb p) → vc (jb p) = jb p ∧ zk (jb p) = []):=by
    constructor
    ·intro h;rw [List.take_length];simp [vc,zk,h]
    ·intro h;simp [vc,zk,h]
   generalize yI p (k:Int) = Q at hjo hgr hae hj2 ⊢
   generalize vC p (k:Int) = E at hae ⊢
   generalize vI (jb p) (k:Int) = Cut at hcut hae hjo hcl hj2
   generalize zM (jb p) (k:Int) = Rm at hcut htr hrm
   generalize vc (jb p) = St at hcut htr hse hsl
   generalize zk (jb p) = En at hse hjo hel hj2 hrm
   generalize vo (k:Int) = Mk at hmk hjo hml hj2 hrm
   generalize yn 46 (jb p) = ix at hla hbd hse
   generalize jb p = nm at *
   generalize qJ p = pa at *
   have hTl:(zm (St.take Rm.toNat)).length ≤ p.length:=by
    have:=XB (St.take Rm.toNat)
    rw [List.length_take] at this;omega
   generalize zm (St.take Rm.toNat) = T at htr hcut hTl
   by_cases hix:0 < ix
   ·obtain ⟨hS,hE⟩:=hse.1 hix
    clear hse
    subst hS
    subst hE
    subst hmk
    subst hrm
    cases hrr:decide (20 - ((([32,40] ++ ko (k:Int) ++ [41]:qP)).length:Int) - (((nm.take nm.length).drop ix.toNat).length:Int) < ((nm.take ix.toNat).length:Int))
    ·rw [if_neg (of_decide_eq_false hrr)] at hcut
     subst hcut
     refine qc Tryz.func146 rfl _ Tryz.ntmps146 (Nat.le_of_ble_eq_true rfl) _ Tryz.results146 0 rfl rfl ?_
     repeat' (first|refine qn ?_|(first|(refine jL ?_)|refine j1 Tryz.func164 (hch ..) ?_|refine j1 Tryz.func163 (hsp ..) ?_|refine jv Tryz.func170 (hla ..) ?_|(apply qi;apply jq (a:=0) (b:=ix.toNat);(case hx=>rfl);(case hT=>rfl);(case he=>rfl);(case ha=>rfl);(case hb=>exact ⟨_,x5 (by omega)⟩);(case hab=>(first|omega|(simp;done)|(simp only [List.length_cons,List.length_nil,List.length_map];omega)|(simp;omega)));(case hbl=>(first|omega|(simp;done)|(simp only [List.length_cons,List.length_nil,List.length_map];omega)|(simp;omega)));(case hN=>exact nle rfl))|(apply qi;apply jq (a:=ix.toNat) (b:=nm.length);(case hx=>rfl);(case hT=>rfl);(case he=>rfl);(case ha=>exact ⟨_,x5 (by omega)⟩);(case hb=>rfl);(case hab=>(first|omega|(simp;done)|(simp only [List.length_cons,List.length_nil,List.length_map];omega)|(simp;omega)));(case hbl=>(first|omega|(simp;done)|(simp only [List.length_cons,List.length_nil,List.length_map];omega)|(simp;omega)));(case hN=>exact nle rfl))|refine jv Tryz.func99 (hit ..) ?_|(apply qi;apply Yw;(case hx=>rfl);(case hy=>rfl);(case hN=>exact nle rfl))|(apply qi;apply jq (a:=0) (b:=Int.toNat _);(case hx=>rfl);(case hT=>rfl);(case he=>rfl);(case ha=>rfl);(case hb=>exact ⟨_,rfl⟩);(case hab=>(first|omega|(simp;done)|(simp only [List.length_cons,List.length_nil,List.length_map];omega)|(simp;omega)));(case hbl=>(show _ ≤ (nm.take ix.toNat).length;omega));(case hN=>exact nle rfl))|refine jv Tryz.func171 (htr ..) ?_|refine jv Tryz.func172 (hjo ..) ?_|refine jv Tryz.func169 (hgr ..) ?_|(apply qi;apply vV;rfl;rfl;(simp only [List.length_append,List.length_cons,List.length_nil];omega);exact nle rfl))|((first|refine qf ?_ ?_|refine qe ?_ ?_|refine xsC ?_ ?_);all_goals (intro hc;have hp:=hc;try simp at hp;try (exfalso;omega)))|refine qX ?_ ?_)
     all_goals try (exfalso;omega)
     all_goals ((refine xa (rs:=[.tmp 4,.tmp 5]) ?_;(repeat' (first|exact q5|apply qA|exact q4 rfl|exact yE|exact zz|apply jX|apply y5|apply jO|apply y3|apply yz|apply y4|refine zr ?_|apply x8));all_goals (simp_all [JK])))
    ·have hr2:=of_decide_eq_true hrr
     rw [if_pos hr2] at hcut
     subst hcut
     refine qc Tryz.func146 rfl _ Tryz.ntmps146 (Nat.le_of_ble_eq_true rfl) _ Tryz.results146 0 rfl rfl ?_
     repeat' (first|refine qn ?_|(first|(refine jL ?_)|refine j1 Tryz.func164 (hch ..) ?_|refine j1 Tryz.func163 (hsp ..) ?_|refine jv Tryz.func170 (hla ..) ?_|(apply qi;apply jq (a:=0) (b:=ix.toNat);(case hx=>rfl);(case hT=>rfl);(case he=>rfl);(case ha=>rfl);(case hb=>exact ⟨_,x5 (by omega)⟩);(case hab=>(first|omega|(simp;done)|(simp only [List.length_cons,List.length_nil,List.length_map];omega)|(simp;omega)));(case hbl=>(first|omega|(simp;done)|(simp only [List.length_cons,List.length_nil,List.length_map];omega)|(simp;omega)));(case hN=>exact nle rfl))|(apply qi;apply jq (a:=ix.toNat) (b:=nm.length);(case hx=>rfl);(case hT=>rfl);(case he=>rfl);(case ha=>exact ⟨_,x5 (by omega)⟩);(case hb=>rfl);(case hab=>(first|omega|(simp;done)|(simp only [List.length_cons,List.length_nil,List.length_map];omega)|(simp;omega)));(case hbl=>(first|omega|(simp;done)|(simp only [List.length_cons,List.length_nil,List.length_map];omega)|(simp;omega)));(case hN=>exact nle rfl))|refine jv Tryz.func99 (hit ..) ?_|(apply qi;apply Yw;(case hx=>rfl);(case hy=>rfl);(case hN=>exact nle rfl))|(apply qi;apply jq (a:=0) (b:=Int.toNat _);(case hx=>rfl);(case hT=>rfl);(case he=>rfl);(case ha=>rfl);(case hb=>exact ⟨_,rfl⟩);(case hab=>(first|omega|(simp;done)|(simp only [List.length_cons,List.length_nil,List.length_map];omega)|(simp;omega)));(case hbl=>(show _ ≤ (nm.take ix.toNat).length;omega));(case hN=>exact nle rfl))|refine jv Tryz.func171 (htr ..) ?_|refine jv Tryz.func172 (hjo ..) ?_|refine jv Tryz.func169 (hgr ..) ?_|(apply qi;apply vV;rfl;rfl;(simp only [List.length_append,List.length_cons,List.length_nil];omega);exact nle rfl))|((first|refine qf ?_ ?_|refine qe ?_ ?_|refine xsC ?_ ?_);all_goals (intro hc;have hp:=hc;try simp at hp;try (exfalso;omega)))|refine qX ?_ ?_)
     all_goals try (exfalso;omega)
     all_goals ((refine xa (rs:=[.tmp 4,.tmp 5]) ?_;(repeat' (first|exact q5|apply qA|exact q4 rfl|exact yE|exact zz|apply jX|apply y5|apply jO|apply y3|apply yz|apply y4|refine zr ?_|apply x8));all_goals (simp_all [JK])))
   ·obtain ⟨hS,hE⟩:=hse.2 hix
    clear hse
    have hS':=hS.symm
    subst hS'
    subst hE
    subst hmk
    subst hrm
    cases hrr:decide (20 - ((([32,40] ++ ko (k:Int) ++ [41]:qP)).length:Int) - (([]:qP).length:Int) < ((nm).length:Int))
    ·rw [if_neg (of_decide_eq_false hrr)] at hcut
     subst hcut
     refine qc Tryz.func146 rfl _ Tryz.ntmps146 (Nat.le_of_ble_eq_true rfl) _ Tryz.results146 0 rfl rfl ?_
     repeat' (first|refine qn ?_|(first|(refine jL ?_)|refine j1 Tryz.func164 (hch ..) ?_|refine j1 Tryz.func163 (hsp ..) ?_|refine jv Tryz.func170 (hla ..) ?_|(apply qi;apply jq (a:=0) (b:=ix.toNat);(case hx=>rfl);(case hT=>rfl);(case he=>rfl);(case ha=>rfl);(case hb=>exact ⟨_,x5 (by omega)⟩);(case hab=>(first|omega|(simp;done)|(simp only [List.length_cons,List.length_nil,List.length_map];omega)|(simp;omega)));(case hbl=>(first|omega|(simp;done)|(simp only [List.length_cons,List.length_nil,List.length_map];omega)|(simp;omega)));(case hN=>exact nle rfl))|(apply qi;apply jq (a:=ix.toNat) (b:=nm.length);(case hx=>rfl);(case hT=>rfl);(case he=>rfl);(case ha=>exact ⟨_,x5 (by omega)⟩);(case hb=>rfl);(case hab=>(first|omega|(simp;done)|(simp only [List.length_cons,List.length_nil,List.length_map];omega)|(simp;omega)));(case hbl=>(first|omega|(simp;done)|(simp only [List.length_cons,List.length_nil,List.length_map];omega)|(simp;omega)));(case hN=>exact nle rfl))|refine jv Tryz.func99 (hit ..) ?_|(apply qi;apply Yw;(case hx=>rfl);(case hy=>rfl);(case hN=>exact nle rfl))|(apply qi;apply jq (a:=0) (b:=Int.toNat _);(case hx=>rfl);(case hT=>rfl);(case he=>rfl);(case ha=>rfl);(case hb=>exact ⟨_,rfl⟩);(case hab=>(first|omega|(simp;done)|(simp only [List.length_cons,List.length_nil,List.length_map];omega)|(simp;omega)));(case hbl=>omega);(case hN=>exact nle rfl))|refine jv Tryz.func171 (htr ..) ?_|refine jv Tryz.func172 (hjo ..) ?_|refine jv Tryz.func169 (hgr ..) ?_|(apply qi;apply vV;rfl;rfl;(simp only [List.length_append,List.length_cons,List.length_nil];omega);exact nle rfl))|((first|refine qf ?_ ?_|refine qe ?_ ?_|refine xsC ?_ ?_);all_goals (intro hc;have hp:=hc;try simp at hp;try (exfalso;omega)))|refine qX ?_ ?_)
     all_goals try (exfalso;omega)
     all_goals ((refine xa (rs:=[.tmp 4,.tmp 5]) ?_;(repeat' (first|exact q5|apply qA|exact q4 rfl|exact yE|exact zz|apply jX|apply y5|apply jO|apply y3|apply yz|apply y4|refine zr ?_|apply x8));all_goals (simp_all [JK])))
    ·have hr2:=of_decide_eq_true hrr
     rw [if_pos hr2] at hcut
     subst hcut
     refine qc Tryz.func146 rfl _ Tryz.ntmps146 (Nat.le_of_ble_eq_true rfl) _ Tryz.results146 0 rfl rfl ?_
     repeat' (first|refine qn ?_|(first|(refine jL ?_)|refine j1 Tryz.func164 (hch ..) ?_|refine j1 Tryz.func163 (hsp ..) ?_|refine jv Tryz.func170 (hla ..) ?_|(apply qi;apply jq (a:=0) (b:=ix.toNat);(case hx=>rfl);(case hT=>rfl);(case he=>rfl);(case ha=>rfl);(case hb=>exact ⟨_,x5 (by omega)⟩);(case hab=>(first|omega|(simp;done)|(simp only [List.length_cons,List.length_nil,List.length_map];omega)|(simp;omega)));(case hbl=>(first|omega|(simp;done)|(simp only [List.length_cons,List.length_nil,List.length_map];omega)|(simp;omega)));(case hN=>exact nle rfl))|(apply qi;apply jq (a:=ix.toNat) (b:=nm.length);(case hx=>rfl);(case hT=>rfl);(case he=>rfl);(case ha=>exact ⟨_,x5 (by omega)⟩);(case hb=>rfl);(case hab=>(first|omega|(simp;done)|(simp only [List.length_cons,List.length_nil,List.length_map];omega)|(simp;omega)));(case hbl=>(first|omega|(simp;done)|(simp only [List.length_cons,List.length_nil,List.length_map];omega)|(simp;omega)));(case hN=>exact nle rfl))|refine jv Tryz.func99 (hit ..) ?_|(apply qi;apply Yw;(case hx=>rfl);(case hy=>rfl);(case hN=>exact nle rfl))|(apply qi;apply jq (a:=0) (b:=Int.toNat _);(case hx=>rfl);(case hT=>rfl);(case he=>rfl);(case ha=>rfl);(case hb=>exact ⟨_,rfl⟩);(case hab=>(first|omega|(simp;done)|(simp only [List.length_cons,List.length_nil,List.length_map];omega)|(simp;omega)));(case hbl=>omega);(case hN=>exact nle rfl))|refine jv Tryz.func171 (htr ..) ?_|refine jv Tryz.func172 (hjo ..) ?_|refine jv Tryz.func169 (hgr ..) ?_|(apply qi;apply vV;rfl;rfl;(simp only [List.length_append,List.length_cons,List.length_nil];omega);exact nle rfl))|((first|refine qf ?_ ?_|refine qe ?_ ?_|refine xsC ?_ ?_);all_goals (intro hc;have hp:=hc;try simp at hp;try (exfalso;omega)))|refine qX ?_ ?_)
     all_goals try (exfalso;omega)
     all_goals ((refine xa (rs:=[.tmp 4,.tmp 5]) ?_;(repeat' (first|exact q5|apply qA|exact q4 rfl|exact yE|exact zz|apply jX|apply y5|apply jO|apply y3|apply yz|apply y4|refine zr ?_|apply x8));all_goals (simp_all [JK])))
 ·rw [show vg p n = qH p from by simp [vg,h0]]
  refine qc Tryz.func146 rfl _ Tryz.ntmps146 (Nat.le_of_ble_eq_true rfl) _ Tryz.results146 0 rfl rfl ?_
  repeat' (first|refine qn ?_|(first|(refine jL ?_)|refine j1 Tryz.func164 (hch ..) ?_)|((first|refine qf ?_ ?_|refine qe ?_ ?_|refine xsC ?_ ?_);all_goals (intro hc;have hp:=hc;try simp at hp;try (exfalso;omega)))|refine qX ?_ ?_)
  all_goals try (exfalso;omega)
  all_goals ((refine xa (rs:=[.tmp 4,.tmp 5]) ?_;(repeat' (first|exact q5|apply qA|exact q4 rfl|exact yE|exact zz|apply jX|apply y5|apply jO|apply y3|apply yz|apply y4|refine zr ?_|apply x8));all_goals (simp_all [JK])))
end Go.Proofs.YtamejbkifpjhiaaGreatDoor
set_option linter.unusedSimpArgs false
set_option linter.unnecessarySimpa false
set_option maxHeartbeats 1000000
namespace Go.Proofs.YtamejbkifpjhiaaGreatDoor
open Go.Ab Go.RowKit
set_option maxRecDepth 10000
attribute [local irreducible] Awp yH jH jw Red ja Go.Ab.Fin qZ Rz vn jr jp ResOk j3 jC yC jA
def fromN (p:qP) (i:Nat):Nat:=i - (jb (p.take i)).length
def WN (p:qP) (i:Nat):List qP:=(qu (p.take i)).dropLast
@[simp] theorem qgR (p:qP):WN p 0 = []:=rfl
@[simp] theorem qgj (p:qP):fromN p 0 = 0:=rfl
@[simp] theorem qfU (s:qP):cellsOf (AV.v (str s)) = [AV.v (str s)]:=rfl
theorem qbQ {s:qP} {X:List qP} {y:qP} (h:qu s = X ++ [y]):(qu s).dropLast = X ∧ jb s = y:=by
 have h1:=(vN s).1
 rw [h,List.dropLast_concat] at h1
 refine ⟨by rw [h,List.dropLast_concat],?_⟩
 have:=List.append_cancel_left h1
 simpa using this.symm
theorem qbs {p:qP} {i:Nat} (h:i < p.length) (hc:p[i] = 47):WN p (i + 1) = WN p i ++ [jb (p.take i)] ∧ fromN p (i + 1) = i + 1:=by
 have e:p.take (i + 1) = p.take i ++ [47]:=by rw [List.take_succ_eq_append_getElem h,hc]
 obtain ⟨h1,h2⟩:=qbQ (JS (p.take i))
 refine ⟨?_,?_⟩
 ·show (qu (p.take (i + 1))).dropLast = _
  rw [e,h1];exact (vN (p.take i)).1
 ·show i + 1 - (jb (p.take (i + 1))).length = _
  rw [e,h2];rfl
theorem qbr {p:qP} {i:Nat} (h:i < p.length) (hc:¬ p[i] = 47):WN p (i + 1) = WN p i ∧ fromN p (i + 1) = fromN p i:=by
 have e:p.take (i + 1) = p.take i ++ [p[i]]:=List.take_succ_eq_append_getElem h
 obtain ⟨h1,h2⟩:=qbQ (YK hc (p.take i))
 refine ⟨?_,?_⟩
 ·show (qu (p.take (i + 1))).dropLast = _
  rw [e,h1];rfl
 ·show i + 1 - (jb (p.take (i + 1))).length = _
  rw [e,h2];unfold fromN;simp
theorem qbL {p:qP} {i:Nat} (h:i ≤ p.length):fromN p i ≤ i ∧ (p.take i).drop (fromN p i) = jb (p.take i):=by
 have:=(Zs (p.take i)).2
 rw [List.length_take,Nat.min_eq_left h] at this
 exact ⟨Nat.sub_le _ _,this⟩
theorem qfs (p:qP) (i:Nat):(WN p i).length ≤ p.length:=by
 unfold WN
 rw [List.length_dropLast,wK]
 have h1:(p.take i).count 47 ≤ (p.take i).length:=List.count_le_length
 have h2:(p.take i).length ≤ p.length:=by rw [List.length_take];omega
 omega
theorem zd (p:qP) (hp:p.length ≤ 4000000000):xH C.P 79 [.v (str p)] (.sl false ((qu p).map qO)):=by
 refine qc Tryz.func79 rfl _ Tryz.ntmps79 (Nat.le_of_ble_eq_true rfl) _ Tryz.results79 0 rfl rfl ?_
 repeat' (first|refine qn ?_|fail|((first|refine xsC ?_ ?_);all_goals (intro hc;have hp:=hc;try simp at hp;try (exfalso;omega)))|refine qX ?_ ?_)
 refine Awp.red (ye 3 1 rfl (Nat.zero_le _)) ?_
 (refine Awp.red (qB (τ:=⟨[(0,.v (str p)),(3,.os 0 0 (WN p 0).length),(4,.v (.int .i64 ((fromN p 0:Nat):Int))),(5,.v (.int .i64 ((0:Nat):Int)))],[(0,.own false 1 ((WN p 0).map qO))],1⟩) [(0,0)] rfl ?gts ?ghs) ?gmain;(case gts=>(repeat (first|exact qg|refine qo ?_|refine yg ?_|refine x6 ?_|refine qY ?_ ?_)));(case ghs=>(repeat (first|exact qj|refine j4 ?_|refine q6 ?_ ?_))))
 refine qV (fun n σ => ∃ i:Nat,i ≤ p.length ∧ n = p.length - i ∧ (True) ∧ σ = ⟨[(0,.v (str p)),(3,.os 0 0 (WN p i).length),(4,.v (.int .i64 ((fromN p i:Nat):Int))),(5,.v (.int .i64 (i:Int)))],[(0,.own false 1 ((WN p i).map qO))],1⟩) p.length ⟨0,Nat.zero_le _,rfl,trivial,rfl⟩ ?_
 rintro n σ ⟨i,hi,rfl, -,rfl⟩
 have hnl:=qfs p i
 by_cases hlt:i < p.length
 ·have hr:p[i]? = some p[i]:=List.getElem?_eq_getElem hlt
  obtain ⟨hfl,hfd⟩:=qbL hi
  have hs1 := @qbs p i hlt
  have hs2 := @qbr p i hlt
  generalize hF:fromN p i = fr at hfl hfd hs1 hs2 ⊢
  repeat' (first|refine qn ?_|(first|(apply qi;apply jq (a:=fr) (b:=i);(case hx=>rfl);(case hT=>rfl);(case he=>rfl);(case ha=>exact ⟨_,rfl⟩);(case hb=>exact ⟨_,rfl⟩);(case hab=>(first|omega|(simp;done)|(simp only [List.length_cons,List.length_nil,List.length_map];omega)|(simp;omega)));(case hbl=>(first|omega|(simp;done)|(simp only [List.length_cons,List.length_nil,List.length_map];omega)|(simp;omega)));(case hN=>exact nle rfl))|(refine jL ?_)|(refine yi ?_))|((first|refine xsC ?_ ?_);all_goals (intro hc;have hp:=hc;try simp at hp;try (exfalso;omega)))|refine qX ?_ ?_)
  all_goals try (exfalso;omega)
  ·have hc:p[i] = 47:=UInt8.toNat.inj (by show p[i].toNat = 47;omega)
   obtain ⟨hk,hk2⟩:=hs1 hc
   refine ⟨p.length - (i + 1),_,by omega,qB (τ:=⟨[(0,.v (str p)),(3,.os 0 0 (WN p (i + 1)).length),(4,.v (.int .i64 ((fromN p (i + 1):Nat):Int))),(5,.v (.int .i64 ((i + 1:Nat):Int)))],[(0,.own false 1 ((WN p (i + 1)).map qO))],1⟩) [(1,0)] rfl ?gts ?ghs,i + 1,by omega,rfl,trivial,rfl⟩;(case gts=>(repeat (first|exact qg|refine qo ?_|refine yg ?_|refine x6 ?_|refine qY ?_ ?_));all_goals (first|(rw [hk2];rfl)|(rw [hk2])|(rw [hk,hfd,List.take_of_length_le (by simp)];simp [qO])));(case ghs=>(repeat (first|exact qj|refine j4 ?_|refine q6 ?_ ?_));all_goals (first|(rw [hk2];rfl)|(rw [hk2])|(rw [hk,hfd,List.take_of_length_le (by simp)];simp [qO])))
  ·have hc:¬ p[i] = 47:=fun e=>by rw [e] at hp;simp at hp
   obtain ⟨hk,hk2⟩:=hs2 hc
   refine ⟨p.length - (i + 1),_,by omega,qB (τ:=⟨[(0,.v (str p)),(3,.os 0 0 (WN p (i + 1)).length),(4,.v (.int .i64 ((fromN p (i + 1):Nat):Int))),(5,.v (.int .i64 ((i + 1:Nat):Int)))],[(0,.own false 1 ((WN p (i + 1)).map qO))],1⟩) [(0,0)] rfl ?gts ?ghs,i + 1,by omega,rfl,trivial,rfl⟩;(case gts=>(repeat (first|exact qg|refine qo ?_|refine yg ?_|refine x6 ?_|refine qY ?_ ?_));all_goals (first|(rw [hk2];rfl)|(rw [hk2])|(rw [hk])));(case ghs=>(repeat (first|exact qj|refine j4 ?_|refine q6 ?_ ?_));all_goals (first|(rw [hk2];rfl)|(rw [hk2])|(rw [hk])))
 obtain rfl:i = p.length:=by omega
 obtain ⟨hfl,hfd⟩:=qbL hi
 generalize hF:fromN p p.length = fr at hfl hfd ⊢
 repeat' (first|refine qn ?_|(first|(apply qi;apply jq (a:=fr) (b:=p.length);(case hx=>rfl);(case hT=>rfl);(case he=>rfl);(case ha=>exact ⟨_,rfl⟩);(case hb=>rfl);(case hab=>(first|omega|(simp;done)|(simp only [List.length_cons,List.length_nil,List.length_map];omega)|(simp;omega)));(case hbl=>(first|omega|(simp;done)|(simp only [List.length_cons,List.length_nil,List.length_map];omega)|(simp;omega)));(case hN=>exact nle rfl))|(refine jL ?_)|(refine yi ?_))|((first|refine xsC ?_ ?_);all_goals (intro hc;have hp:=hc;try simp at hp;try (exfalso;omega)))|refine qX ?_ ?_)
 all_goals try (exfalso;omega)
 have hall:WN p p.length ++ [jb p] = qu p:=by unfold WN;rw [List.take_length];exact (vN p).1.symm
 rw [List.take_length] at hfd
 (refine xa (rs:=[.tmp 2]) ?_;(repeat' (first|exact q5|apply qA|exact q4 rfl|exact yE|exact zz|apply jX|apply y5|apply jO|apply y3|apply yz|apply y4|refine zr ?_|apply x8));all_goals (rw [← hall,List.take_of_length_le (by simp),List.take_length,hfd];simp [qO]))
theorem xV (p:qP):(qu p).length ≤ p.length + 1:=by
 rw [wK]
 have:p.count 47 ≤ p.length:=List.count_le_length
 omega
theorem JV (p:qP) (hp:p.length ≤ 4000000000):xH C.P 80 [.v (str p)] (.v (.bool (j8 p))):=by
 have hn:=zd p hp
 have htg:j8 p = (decide (6 < (qu p).length) || decide (80 < p.length)):=rfl
 refine qc Tryz.func80 rfl _ Tryz.ntmps80 (Nat.le_of_ble_eq_true rfl) _ Tryz.results80 0 rfl rfl ?_
 repeat' (first|refine qn ?_|(first|refine j1 Tryz.func79 (hn ..) ?_)|((first|refine qf ?_ ?_|refine qe ?_ ?_|refine xsC ?_ ?_);all_goals (intro hc;have hp:=hc;try simp at hp;try (exfalso;omega)))|refine qX ?_ ?_)
 all_goals (apply j6;rfl;rw [htg])
 all_goals first
  | (have h6:¬ 6 < (qu p).length:=(by omega)
     simp [h6];done)
  | (have h6:6 < (qu p).length:=(by omega)
     simp [h6];done)
  | (have h6:¬ 6 < (qu p).length:=(by omega)
     simp [h6];omega)
theorem QX (p:qP) (hp:p.length ≤ 4000000000):xH C.P 70 [.v (str p)] (.v (.int .i64 (qH p))):=by
 have hn:=zd p hp
 have hg:=JV p hp
 have hpe:qH p = if (qu p).all yq = true then (if j8 p = true then 2 else 0) else 1:=rfl
 have hsh : ∀ n,n ∈ qu p → n.length ≤ p.length:=fun n h=>JR h
 have hmn:=xV p
 generalize qH p = E at hpe ⊢
 generalize qu p = L at hn hpe hsh hmn
 refine qc Tryz.func70 rfl _ Tryz.ntmps70 (Nat.le_of_ble_eq_true rfl) _ Tryz.results70 0 rfl rfl ?_
 repeat' (first|refine qn ?_|(first|refine j1 Tryz.func79 (hn ..) ?_)|((first|refine xsC ?_ ?_);all_goals (intro hc;have hp:=hc;try simp at hp;try (exfalso;omega)))|refine qX ?_ ?_)
 (refine Awp.red (qI (ts:=[(0,.v (str p)),(3,.sl false (L.map qO)),(4,.v (.int .i64 ((0:Nat):Int)))]) ?_) ?_;((repeat (first|exact qg|refine qo ?_|refine qY ?_ ?_))))
 refine qV (fun n σ => ∃ i:Nat,i ≤ L.length ∧ n = L.length - i ∧ (∀ x,x ∈ L.take i → yq x = true) ∧ σ = ⟨[(0,.v (str p)),(3,.sl false (L.map qO)),(4,.v (.int .i64 (i:Int)))],[],C.nh⟩) L.length ⟨0,Nat.zero_le _,rfl,(by simp),rfl⟩ ?_
 rintro n σ ⟨i,hi,rfl,hsofar,rfl⟩
 by_cases hlt:i < L.length
 ·have hr:=jB (f:=qO) hlt
  have hnm:=qcv L[i] (by have:=hsh L[i] (List.getElem_mem hlt);omega)
  repeat' (first|refine qn ?_|(first|refine jv Tryz.func125 (hnm ..) ?_)|((first|refine xsC ?_ ?_);all_goals (intro hc;have hp:=hc;try simp at hp;try (exfalso;omega)))|refine qX ?_ ?_)
  all_goals try (exfalso;omega)
  ·apply jY
   rfl
   have hall:¬ L.all yq = true:=fun h=>by
    have:=List.all_eq_true.1 h L[i] (List.getElem_mem hlt)
    simp_all
   rw [hpe,if_neg hall]
  ·refine ⟨L.length - (i + 1),_,by omega,qI (ts:=[(0,.v (str p)),(3,.sl false (L.map qO)),(4,.v (.int .i64 ((i + 1:Nat):Int)))]) ?_,i + 1,by omega,rfl,ya hlt hsofar (by assumption),rfl⟩;((repeat (first|exact qg|refine qo ?_|refine qY ?_ ?_)))
 obtain rfl:i = L.length:=by omega
 rw [List.take_length] at hsofar
 have hall:L.all yq = true:=List.all_eq_true.2 hsofar
 rw [if_pos hall] at hpe
 repeat' (first|refine qn ?_|(first|refine jv Tryz.func80 (hg ..) ?_)|((first|refine xsC ?_ ?_);all_goals (intro hc;have hp:=hc;try simp at hp;try (exfalso;omega)))|refine qX ?_ ?_)
 all_goals try (exfalso;omega)
 all_goals (apply jY;rfl;simp_all)
end Go.Proofs.YtamejbkifpjhiaaGreatDoor
