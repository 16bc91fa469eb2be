import Derived.Test.YtiljlcgmcmjcoaaGreatDoorMz7
import Derived.RangeFuncNested
import Derived.RangeFuncBound
import Derived.RangeFuncCalls
import Derived.RangeFuncLeaves
import Derived.Shelf.Abstract
import Derived.Shelf.RegionOpen
import Derived.WalkKit
import Derived.OwnWalkIn
import Derived.TacticsInMore
import Derived.LoopNIn
import Derived.LoopIn
import Derived.Test.YtiljlcgmcmjcoaaGreatDoorMz6
import Derived.Test.YtiljlcgmcmjcoaaGreatDoorMz0
set_option linter.unusedSimpArgs false
set_option linter.unnecessarySimpa false
namespace Go.Proofs.YtiljlcgmcmjcoaaGreatDoor
open Go.Ab Go.RowKit Go.Shelf
set_option maxRecDepth 10000
attribute [local go_sem] Oper.semAt_some
abbrev zk (s:qC):Value := .string ⟨s.toArray⟩
abbrev Yv (b:Nat):Value := .pointer (some ⟨b,0,none⟩)
theorem WB (p:qC) (w:World):Calls Tryz.prog 170 #[zk p,zk ws,.int .i64 0] w fun e w' =>
  e = .returned (.func (.func 181) #[] #[Yv (w.heap.size + 1),Yv w.heap.size,Yv (w.heap.size + 2)]) ∧ w' = ((w.alloc (.cells #[zk p] 9)).alloc (.cells #[zk ws] 9)).alloc (.cells #[.int .i64 0] 3):=by
 go_enter Tryz.func170,Tryz.ntmps170
 go_wp2
 go_ret
 refine ⟨rfl,rfl⟩
theorem qap (p:qC) (w:World):Calls Tryz.prog 142 #[zk p,zk ws] w fun e w' =>
  e = .returned (.func (.func 181) #[] #[Yv (w.heap.size + 1),Yv w.heap.size,Yv (w.heap.size + 2)]) ∧ w' = ((w.alloc (.cells #[zk p] 9)).alloc (.cells #[zk ws] 9)).alloc (.cells #[.int .i64 0] 3):=by
 go_enter Tryz.func142,Tryz.ntmps142
 go_wp2_with (go_at_call 170;refine (WB _ _).mono ?_;rintro e w' ⟨rfl,rfl⟩)
 go_ret
 refine ⟨rfl,rfl⟩
theorem KD (s:qC) (c:UInt8) (w:World):Calls Tryz.prog 116 #[zk s,.int .u8 (c.toNat:Int)] w fun e w'=>e = .returned (.int .i64 (Lib.indexByte s c)) ∧ w' = w:=by
 go_enter Tryz.func116,Tryz.ntmps116
 go_wp2
 rw [run_callFunc_extern Tryz.func144 (by kernel_rfl) (by kernel_rfl) (by kernel_rfl) (e:=Extern.BytealgIndexByte.indexByte) (by kernel_rfl),Lib.run_indexByteString]
 simp only [Result.andThen]
 rw [Oper.upon_value]
 go_wp2
 go_ret
 refine ⟨?_,rfl⟩
 simp
theorem qco (s:qC) (w:World):Calls Tryz.prog 196 #[zk s,zk ws] w fun e w'=>e = .returned (.int .i64 (Lib.indexByte s 47)) ∧ w' = w:=by
 show Calls _ _ #[zk s,.string ⟨#[47]⟩] w _
 go_enter Tryz.func196,Tryz.ntmps196
 go_wp2_with (go_at_call 116;refine (KD s 47 _).mono ?_;rintro e w' ⟨rfl,rfl⟩)
 ·go_ret
  refine ⟨?_,rfl⟩
  have e:([47]:qC) = s:=by first|assumption|(simp_all;done)
  subst e
  rfl
 ·go_ret
  exact ⟨rfl,rfl⟩
theorem K4 (s:qC) (w:World):Calls Tryz.prog 183 #[zk s,zk ws] w fun e w'=>e = .returned (.int .i64 (Lib.indexByte s 47)) ∧ w.grownBy w' none:=by
 go_enter Tryz.func183,Tryz.ntmps183
 go_wp2_with (go_at_call 196;refine (qco _ _).mono ?_;rintro e w' ⟨rfl,rfl⟩)
 go_ret
 exact ⟨rfl,⟨rfl,rfl,rfl,Nat.le_refl _,fun _ _ _=>rfl⟩⟩
theorem qbX (s:qC):(Lib.indexByte s 47 = -1 ∧ (47:UInt8) ∉ s) ∨ ∃ a b,s = a ++ 47 :: b ∧ (47:UInt8) ∉ a ∧ Lib.indexByte s 47 = a.length:=by
 induction s with
 | nil=>exact .inl ⟨rfl,by simp⟩
 | cons c s ih =>
   by_cases hc:c = 47
   ·subst hc;exact .inr ⟨[],s,rfl,by simp,by simp [Lib.indexByte]⟩
   ·rcases ih with ⟨h1,h2⟩|⟨a,b,h1,h2,h3⟩
    ·exact .inl ⟨by simp [Lib.indexByte,hc,h1],by simp only [List.mem_cons,not_or];exact ⟨fun e=>hc e.symm,h2⟩⟩
    ·refine .inr ⟨c :: a,b,by simp [h1],by simp only [List.mem_cons,not_or];exact ⟨fun e=>hc e.symm,h2⟩,?_⟩
     have:¬ Lib.indexByte s 47 = -1:=by omega
     simp [Lib.indexByte,hc,this,h3]
theorem xt {W:World} {b T:Nat} {v:Value} (h:W.heap[b]? = some (.cells #[v] T (0,0))):W.cell? ⟨b,0,none⟩ = some v ∧ W.frozen? ⟨b,0,none⟩ = false:=by simp [World.cell?,World.frozen?,h]
theorem kept {A B:World} {k:Nat} {o:Obj} (hg:A.grownBy B Option.none) (h:A.heap[k]? = some o):B.heap[k]? = some o:=(hg.block k (Array.getElem?_eq_some_iff.1 h).1 (by simp)).trans h
theorem _root_.Go.World.grownBy.weaken {A B:World} (h:A.grownBy B Option.none) (r:Option Nat):A.grownBy B r:=⟨h.os,h.tape,h.output,h.size,fun k hk _=>h.block k hk (by simp)⟩
theorem wrap64_in {x:Int} (h1:0 ≤ x) (h2:x ≤ 9223372036854775807):wrap64 x = x:=IntWalk.wrap64_in x ⟨by omega,by omega⟩
theorem JV (l:List UInt8) (a b:Nat):ByteArray.extract ⟨l.toArray⟩ a b = ⟨((l.take b).drop a).toArray⟩:=by
 have h:(ByteArray.extract ⟨l.toArray⟩ a b).data = ((l.take b).drop a).toArray:=by simp [List.drop_take]
 calc ByteArray.extract ⟨l.toArray⟩ a b = ⟨(ByteArray.extract ⟨l.toArray⟩ a b).data⟩:=rfl
  _ = _:=by rw [h]
theorem heap_set {W:World} {b T:Nat} {v:Value} (h:W.heap[b]? = some (.cells #[v] T (0,0))) (u:Value):(W.setCell ⟨b,0,none⟩ u).heap[b]? = some (.cells #[u] T (0,0)):=by
 obtain ⟨hlt,hb⟩:=Array.getElem?_eq_some_iff.1 h
 show (W.heap.modify b _)[b]? = _
 rw [Array.getElem?_eq_getElem (by rw [Array.size_modify];exact hlt),Array.getElem_modify_self,hb]
 rfl
theorem Qp (W:World) {b k:Nat} (u:Value) (h:k ≠ b):(W.setCell ⟨b,0,none⟩ u).heap[k]? = W.heap[k]?:=Below.heap_setCell W ⟨b,0,none⟩ u k h
def qgH (S:Nat) (w:World):Nat:=match w.cell? ⟨S,0,none⟩ with|some (.string s)=>s.size|_=>0
theorem qdh (n:Nat) (hn:1 ≤ n) (p:qC) (hp:p.length ≤ 140737488355328) (w0:World) (S:Nat) (h0:w0.heap[S]? = some (.cells #[zk p] 9 (0,0))) (h1:w0.heap[S + 1]? = some (.cells #[zk ws] 9 (0,0))) (h2:w0.heap[S + 2]? = some (.cells #[.int .i64 0] 3 (0,0))) :
  qbd Fence.wide n Tryz.prog 181 #[Yv (S + 1),Yv S,Yv (S + 2)] S (qm p) w0:=by
 intro l J Jx W hW hJ hJx hY hJ0
 have hS:W.heap[S]? = some (.cells #[zk p] 9 (0,0)):=(hW S (by omega) (by omega)).trans h0
 have hS1:W.heap[S + 1]? = some (.cells #[zk ws] 9 (0,0)):=(hW (S + 1) (by omega) (by omega)).trans h1
 have hS2:W.heap[S + 2]? = some (.cells #[.int .i64 0] 3 (0,0)):=(hW (S + 2) (by omega) (by omega)).trans h2
 have c1:=(xt hS1).1
 have hsl:List.length ws = 1:=rfl
 refine callsIn_of_wp Tryz.func181 rfl trivial ?_ rfl
 simp only [Tryz.ntmps181,List.size_toArray,List.length_cons,List.length_nil,Nat.reduceAdd,Nat.reduceSub,Array.replicate_succ,Array.replicate_zero,List.push_toArray,List.append_toArray,List.cons_append,List.nil_append]
 gi_wp2
 gi_loopw [7] (fun _ wr => ∃ (pre:List qC) (rest:qC),qm p = pre ++ qm rest ∧ rest.length ≤ p.length ∧ wr.heap[S]? = some (.cells #[zk rest] 9 (0,0)) ∧ wr.heap[S + 1]? = some (.cells #[zk ws] 9 (0,0)) ∧ wr.heap[S + 2]? = some (.cells #[.int .i64 0] 3 (0,0)) ∧ J pre wr) (fun _ wr=>qgH S wr)
 case atStart=>exact ⟨[],p,rfl,Nat.le_refl _,hS,hS1,hS2,hJ0⟩
 case round =>
  obtain ⟨pre,rest,hx,hlen,hb,hb1,hb2,hJs⟩:=hrel
  have c0:=(xt hb).1
  have c1:=(xt hb1).1
  have c2:=(xt hb2).1
  rcases qbX rest with ⟨hm,hfree⟩|⟨a,b,rfl,hfa,hi⟩
  ·have hpre:pre ++ [rest] <+: qm p:=by rw [hx,xY hfree];exact List.prefix_refl _
   gi_wp2_with (refine ⟨trivial,?_⟩;gi_at_call 183;refine (callsIn_wide.2 (K4 _ _)).mono ?_;rintro e w1 ⟨rfl,hg⟩;have hd0:=kept hg hb;have hd1:=kept hg hb1;have hd2:=kept hg hb2;have d0:=(xt hd0).1;have d1:=(xt hd1).1;have d2:=(xt hd2).1;obtain ⟨fn,tmps,assign,body,hy,hR⟩:=hY pre rest w1 (hJ _ _ _ hJs (hg.weaken _)) hpre)
   refine hR.mono ?_
   rintro e W' (⟨rfl,hJ',hk⟩|⟨rfl,hJx'⟩)
   ·gi_wp2
    go_end0
    exact ⟨⟨_,rfl⟩,.inl (by rw [hx,xY hfree];exact hJ')⟩
   ·gi_wp2
    go_end0
    exact ⟨⟨_,rfl⟩,.inr ⟨_,hpre,hJx'⟩⟩
  ·have hpre:pre ++ [a] <+: qm p:=by rw [hx,wI b hfa];exact ⟨qm b,by simp⟩
   have hw1:wrap64 (a.length:Int) = a.length:=wrap64_in (by omega) (by simp at hlen;omega)
   have hw2:wrap64 ((a.length:Int) + 1) = a.length + 1:=wrap64_in (by omega) (by simp at hlen;omega)
   have hs1:=JV (a ++ 47 :: b) 0 a.length
   have hs3:({ data:=List.toArray (a ++ 47 :: b) }:ByteArray).extract (a.length + 1) (a.length + (b.length + 1)) = ⟨b.toArray⟩:=by
    rw [JV,List.take_of_length_le (by simp),List.drop_append,List.drop_of_length_le (by omega),List.nil_append,show a.length + 1 - a.length = 1 from by omega];rfl
   have hs2:=JV (a ++ 47 :: b) (a.length + 1) (a ++ 47 :: b).length
   gi_wp2_with (refine ⟨trivial,?_⟩;gi_at_call 183;refine (callsIn_wide.2 (K4 _ _)).mono ?_;rintro e w1 ⟨rfl,hg⟩;have hd0:=kept hg hb;have hd1:=kept hg hb1;have hd2:=kept hg hb2;have d0:=(xt hd0).1;have d1:=(xt hd1).1;have d2:=(xt hd2).1;obtain ⟨fn,tmps,assign,body,hy,hR⟩:=hY pre a w1 (hJ _ _ _ hJs (hg.weaken _)) hpre)
   refine hR.mono ?_
   rintro e W' (⟨rfl,hJ',hk⟩|⟨rfl,hJx'⟩)
   ·have he0:=(hk S (by omega) (by omega)).trans hd0
    have he1:=(hk (S + 1) (by omega) (by omega)).trans hd1
    have he2:=(hk (S + 2) (by omega) (by omega)).trans hd2
    have e0:=(xt he0).1
    have e1:=(xt he1).1
    have e2:=(xt he2).1
    have f0:=(xt he0).2
    gi_wp2
    go_roundw
    case rel=>exact ⟨pre ++ [a],b,by rw [hx,wI b hfa];simp,by simp at hlen;omega,heap_set he0 _,(Qp W' _ (by omega)).trans he1,(Qp W' _ (by omega)).trans he2,hJ _ _ _ hJ' (grownBy_setCell' W' S _)⟩
    case measure =>
     simp [qgH,(xt (heap_set he0 (zk b))).1,c0,ByteArray.size]
     omega
   ·gi_wp2
    refine bodyPost_ret (results_none rfl _ _ _) rfl ?_
    exact ⟨⟨_,rfl⟩,.inr ⟨_,hpre,hJx'⟩⟩
end Go.Proofs.YtiljlcgmcmjcoaaGreatDoor
set_option linter.unusedSimpArgs false
set_option linter.unnecessarySimpa false
namespace Go.Proofs.YtiljlcgmcmjcoaaGreatDoor
open Go.Ab Go.RowKit Go.Shelf
set_option maxRecDepth 10000
attribute [local go_sem] Oper.semAt_some
def jr (s:qC):List AV:=[.v (str s)]
abbrev mk (D:Nat):Deferred := { target := .collected D,args := #[] }
theorem qfd (s:qC) (w:World):Calls Tryz.prog 171 #[zk s,zk ws] w fun e w'=>e = .returned (.int .i64 (s.count 47:Nat)) ∧ w' = w:=by
 show Calls _ _ #[zk s,.string ⟨#[47]⟩] w _
 go_enter Tryz.func171,Tryz.ntmps171
 go_wp2
 rw [run_callFunc_extern Tryz.func185 (by kernel_rfl) (by kernel_rfl) (by kernel_rfl) (e:=Extern.BytealgCount.count) (by kernel_rfl),Lib.run_countString]
 simp only [Result.andThen]
 rw [Oper.upon_value]
 go_wp2
 go_ret
 refine ⟨?_,rfl⟩
 simp [Lib.countByte]
 rfl
theorem KN (s:qC) (w:World):Calls Tryz.prog 143 #[zk s] w fun e w'=>e = .returned (.bool (yF s)) ∧ w.grownBy w' none:=by
 have htg:=Jq s
 have hg0:w.grownBy w none:=⟨rfl,rfl,rfl,Nat.le_refl _,fun _ _ _=>rfl⟩
 go_enter Tryz.func143,Tryz.ntmps143
 go_wp2_with (go_at_call 171;refine (qfd s _).mono ?_;rintro e w' ⟨rfl,rfl⟩)
 all_goals go_ret
 all_goals (refine ⟨?_,hg0⟩)
 ·show Ending.returned (Value.bool _) = _
  try rw [htg]
  congr 2
  rw [Bool.eq_iff_iff]
  simp
  omega
 ·show Ending.returned (Value.bool true) = _
  try rw [htg]
  congr 2
  have h6:6 ≤ s.count 47:=by first|omega|(simp_all;done)|(simp_all;omega)
  simp [h6]
theorem Xb {F:Fence} {n:Nat} {P:Program} {fn:Func} {tmps:Array Value} {R:Ending → World → Prop} : ∀ (Ds:List Nat) (W:World),Ds.Nodup → (∀ D,D ∈ Ds → W.heap[D]? = some (.deferred (some []))) →
  (∀ W',W.heap.size = W'.heap.size → W'.os = W.os → W'.tape = W.tape → W'.output = W.output → (∀ k,k ∉ Ds → W'.heap[k]? = W.heap[k]?) → LeavesInM F n P fn tmps R [] .returning W') → LeavesInM F n P fn tmps R (Ds.map mk) .returning W
 | [],W,_,_,h=>h W rfl rfl rfl rfl fun _ _=>rfl
 | D :: Ds,W,hn,hd,h=>by
   obtain ⟨h1,h2⟩:=List.nodup_cons.1 hn
   have hK:=hd D (by simp)
   refine ⟨by simp,.inl ⟨D,_,rfl,run_takeDeferred hK,Xb Ds _ h2 (fun D' hD'=>(World.putObj_heap_other (by rintro rfl;exact h1 hD')).trans (hd D' (by simp [hD']))) fun W' a1 a2 a3 a4 a5=>?_⟩⟩
   refine h W' (by rw [← a1];simp) a2 a3 a4 fun k hk=>?_
   simp only [List.mem_cons,not_or] at hk
   exact (a5 k hk.2).trans (World.putObj_heap_other hk.1)
structure ChkW (w:World) (e:Int) (Ds:List Nat) (W:World):Prop where
 below:Below w.heap.size w W
 cell:W.heap[w.heap.size]? = some (.cells #[.int .i64 e] 29 (0,0))
 marks : ∀ D,D ∈ Ds → w.heap.size < D ∧ W.heap[D]? = some (.deferred (some []))
theorem ChkW.grown {w:World} {e:Int} {Ds:List Nat} {W W' : World} {row:Option Nat} (h:ChkW w e Ds W) (hg:W.grownBy W' row) (hr : ∀ r,row = some r → w.heap.size < r ∧ r ∉ Ds):ChkW w e Ds W':=by
 have hlt:=(Array.getElem?_eq_some_iff.1 h.cell).1
 refine ⟨h.below.grown hg (by omega) (fun k e=>by have:=(hr k e).1;omega),(hg.block _ hlt (fun e=>by have:=(hr _ e.symm).1;omega)).trans h.cell,fun D hD=>⟨(h.marks D hD).1,?_⟩⟩
 exact (hg.block D (Array.getElem?_eq_some_iff.1 (h.marks D hD).2).1 (fun e=>(hr _ e.symm).2 hD)).trans (h.marks D hD).2
theorem ChkW.lt {w:World} {e:Int} {Ds:List Nat} {W:World} (h:ChkW w e Ds W):w.heap.size < W.heap.size:=(Array.getElem?_eq_some_iff.1 h.cell).1
theorem ChkW.mlt {w:World} {e:Int} {Ds:List Nat} {W:World} (h:ChkW w e Ds W) : ∀ D,D ∈ Ds → D < W.heap.size:=fun D hD=>(Array.getElem?_eq_some_iff.1 (h.marks D hD).2).1
theorem ChkW.set {w:World} {e:Int} {Ds:List Nat} {W:World} (h:ChkW w e Ds W) (e' : Int):ChkW w e' Ds (W.setCell ⟨w.heap.size,0,Option.none⟩ (.int .i64 e')) :=
 ⟨h.below.setCell (Nat.le_refl _) _,heap_set h.cell _,fun D hD=>⟨(h.marks D hD).1,(Qp W _ (by have:=(h.marks D hD).1;omega)).trans (h.marks D hD).2⟩⟩
theorem Jd {n:Nat} {tmps:Array Value} {w W:World} {e:Int} {Ds:List Nat} (h:ChkW w e Ds W) (hn:Ds.Nodup) (ht:tmps.getD 2 undef = .pointer (some ⟨w.heap.size,0,Option.none⟩)) :
  LeavesInM Fence.wide n Tryz.prog Tryz.f112 tmps (fun en w'=>en = .returned (.int .i64 e) ∧ w.grownBy w' Option.none) (Ds.map mk) .returning W:=by
 refine Xb Ds W hn (fun D hD=>(h.marks D hD).2) fun W' a1 a2 a3 a4 a5=>?_
 have hc:W'.heap[w.heap.size]? = some (.cells #[.int .i64 e] 29 (0,0)):=(a5 _ (fun hm=>absurd (h.marks _ hm).1 (Nat.lt_irrefl _))).trans h.cell
 have hcell:=(xt hc).1
 refine ⟨.int .i64 e,?_,rfl,⟨a2.trans h.below.os,a3.trans h.below.tape,a4.trans h.below.output,by have:=h.below.size;omega,fun k hk _=>(a5 k (fun hm=>by have:=(h.marks k hm).1;omega)).trans (h.below.block k hk)⟩⟩
 simp only [Array.getD_eq_getD_getElem?] at ht
 simp [results,Tryz.results112,go_sem,ht,hcell]
theorem qbF {w W X:World} {e e' : Int} {Ds:List Nat} {D:Nat} (hW:ChkW w e Ds W) (hnd:Ds.Nodup) (hX:ChkW w e' Ds X) (hK:X.heap[D]? = some (.deferred (some []))) (hD:W.heap.size ≤ D) :
  ChkW w e' (D :: Ds) X ∧ (D :: Ds).Nodup ∧ mk D :: Ds.map mk = (D :: Ds).map mk:=by
 have:=hW.lt
 refine ⟨⟨hX.below,hX.cell,fun D' hD'=>?_⟩,List.nodup_cons.2 ⟨fun hm=>by have:=hW.mlt _ hm;omega,hnd⟩,rfl⟩
 rcases List.mem_cons.1 hD' with rfl|h
 ·exact ⟨by omega,hK⟩
 ·exact hX.marks D' h
theorem Yn {p n:qC} (h:n ∈ qm p):n.length ≤ p.length:=by
 induction p generalizing n with
 | nil=>simp [qm] at h;subst h;simp
 | cons c s ih =>
   simp only [qm] at h
   split at h
   ·rcases List.mem_cons.1 h with rfl|h
    ·simp
    ·have:=ih h;simp;omega
   ·split at h
    ·simp at h;subst h;simp
    ·rename_i m l hm
     rcases List.mem_cons.1 h with rfl|h
     ·have:=ih (n:=m) (by rw [hm];simp);simp;omega
     ·have:=ih (n:=n) (by rw [hm];simp [h]);simp;omega
theorem Jv {ps:List qC} {i:Nat} (h:i < ps.length):y6 (ps.drop i) = if qM ps[i] = 0 then y6 (ps.drop (i + 1)) else qM ps[i]:=by
 rw [List.drop_eq_getElem_cons h];rfl
theorem KS (ps:List qC) (hps:ps.length ≤ 1000000) (hsz : ∀ p,p ∈ ps → p.length ≤ 140737488355328) (A:Option Addr) (cap:Nat) (w:World)
  (hA : ∀ i (h:i < ps.length), ∃ bb off,A = some ⟨bb,off,Option.none⟩ ∧ bb < w.heap.size ∧ w.cell? ⟨bb,off + i,Option.none⟩ = some (zk ps[i])) :
  Calls Tryz.prog 112 #[.slice A ps.length cap] w fun e w'=>e = .returned (.int .i64 (y6 ps)) ∧ w.grownBy w' Option.none:=by
 refine (callsIn_wide (n:=10)).1 ?_
 refine callsIn_of_wp_marks Tryz.func112 rfl trivial ?_ rfl
 simp only [Tryz.ntmps112,List.size_toArray,List.length_cons,List.length_nil,Nat.reduceAdd,Nat.reduceSub,Array.replicate_succ,Array.replicate_zero,List.push_toArray,List.append_toArray,List.cons_append,List.nil_append]
 gi_wp2
 refine wpIn_loop (fun a W => ∃ (i:Nat) (Ds:List Nat) (u4 u5 u9 u10 u11 u12 u13 u14 u15 u16 u17 u18 u19 u20:Value),i ≤ ps.length ∧ y6 ps = y6 (ps.drop i) ∧ Ds.Nodup ∧ ChkW w 0 Ds W ∧
  a = { tmps := #[.slice A ps.length cap,undef,.pointer (some ⟨w.heap.size,0,Option.none⟩),undef,u4,u5,.slice A ps.length cap,.int .i64 ps.length,.int .i64 i,u9,u10,u11,u12,u13,u14,u15,u16,u17,u18,u19,u20],defers:=Ds.map mk })
  (fun a _=>ps.length - (intOf (a.tmps.getD 8 undef)).toNat) ⟨0,[],undef,undef,undef,undef,undef,undef,undef,undef,undef,undef,undef,undef,undef,undef,Nat.zero_le _,rfl,List.nodup_nil,?start,rfl⟩ ?round
 case start=>exact ⟨(Below.refl _ w).alloc (Nat.le_refl _) _,World.alloc_heap_new w _,nofun⟩
 case round =>
  rintro a W ⟨i,Ds,u4,u5,u9,u10,u11,u12,u13,u14,u15,u16,u17,u18,u19,u20,hi,herr,hnd,hW,rfl⟩
  have hlt0:=hW.lt
  have cE:=(xt hW.cell).1
  have fE:=(xt hW.cell).2
  by_cases hlt:i < ps.length
  ·obtain ⟨bb,off,hAA,hbb,hcell⟩:=hA i hlt
   subst hAA
   have hc:W.cell? ⟨bb,off + i,Option.none⟩ = some (zk ps[i]):=by rw [World.cell?_of_block (hW.below.block bb hbb)];exact hcell
   gi_wp2_with (refine ⟨trivial,?_⟩;gi_at_call 142;refine (callsIn_wide.2 (qap _ _)).mono ?_;rintro e w' ⟨rfl,rfl⟩)
   have hst : ∀ e (X Y:World) row,ChkW w e Ds X → X.grownBy Y row → (∀ r,row = some r → W.heap.size ≤ r) → ChkW w e Ds Y:=fun e X Y row hX hg hr=>hX.grown hg fun r e=>by
    have h1:=hr r e
    exact ⟨by omega,fun hm=>by have:=hW.mlt r hm;omega⟩
   have hpi:=hsz ps[i] (List.getElem_mem hlt)
   have hW3:ChkW w 0 Ds (((W.alloc (.cells #[zk ps[i]] 9)).alloc (.cells #[zk ws] 9)).alloc (.cells #[.int .i64 0] 3)):=hst 0 _ _ Option.none hW ⟨rfl,rfl,rfl,by simp;omega,fun k hk _=>((Below.heap_alloc _ _ k (by simp;omega)).trans (Below.heap_alloc _ _ k (by simp;omega))).trans (Below.heap_alloc _ _ k hk)⟩ nofun
   refine Yj (F:=Fence.wide) rfl (by decide) (gf:=181) (lb := #[Yv (W.heap.size + 1),Yv W.heap.size,Yv (W.heap.size + 2)]) rfl trivial (enters_of Tryz.func181 (by kernel_rfl) rfl) (S:=W.heap.size) (names:=qm ps[i]) (by simp) (qdh _ (by decide) ps[i] hpi _ _ ?s0 ?s1 ?s2) rfl
    (fun pre X=>(∀ x,x ∈ pre → ql x = true) ∧ ChkW w 0 Ds X) (fun pre X=>(∃ x,x ∈ pre ∧ ql x = false) ∧ ChkW w 1 Ds X)
    (fun s X Y row h hg hr=>⟨h.1,hst 0 X Y row h.2 hg hr⟩) (fun s X Y row h hg hr=>⟨h.1,hst 1 X Y row h.2 hg hr⟩) ⟨nofun,hW3⟩
    (fun x => { tmps := #[.slice (some ⟨bb,off,Option.none⟩) ps.length cap,undef,.pointer (some ⟨w.heap.size,0,Option.none⟩),undef,zk ps[i],zk x,.slice (some ⟨bb,off,Option.none⟩) ps.length cap,.int .i64 ps.length,.int .i64 i,.bool true,.pointer (some ⟨bb,off + i,Option.none⟩),zk ps[i],zk ps[i],.func (.func 181) #[] #[Yv (W.heap.size + 1),Yv W.heap.size,Yv (W.heap.size + 2)],zk x,u15,u16,u17,u18,u19,u20],defers:=[] }) ?assign ?body ?done ?stop
   case s0=>exact (Below.heap_alloc _ _ _ (by simp;omega)).trans ((Below.heap_alloc _ _ _ (by simp)).trans (World.alloc_heap_new W _))
   case s1=>exact (Below.heap_alloc _ _ _ (by simp)).trans (by have:=World.alloc_heap_new (W.alloc (.cells #[zk ps[i]] 9)) (.cells #[zk ws] 9);rwa [World.size_alloc] at this)
   case s2=>exact (by have:=World.alloc_heap_new ((W.alloc (.cells #[zk ps[i]] 9)).alloc (.cells #[zk ws] 9)) (.cells #[.int .i64 0] 3);rwa [World.size_alloc,World.size_alloc] at this)
   case assign =>
    intro l x X K hK
    gi_wp2
    exact hK
   case body =>
    rintro l pre x X ⟨hpre,hX⟩ hpx hsX
    have hxn:x ∈ qm ps[i]:=hpx.subset (by simp)
    have hxl:x.length ≤ 9223372036854775807:=by have:=Yn hxn;omega
    have cX:=(xt hX.cell).1
    have fX:=(xt hX.cell).2
    cases hb:ql x
    ·gi_wp2_with (refine ⟨trivial,?_⟩;gi_at_call 37;refine (CallsIn.inRound l (callsIn_wide.2 (Q4 x _ hxl))).mono ?_;rintro e w1 ⟨rfl,rfl⟩)
     exact ⟨⟨by simp [World.setCell],fun k hk hle=>Qp X _ (by omega)⟩,⟨x,by simp,hb⟩,hX.set 1⟩
    ·gi_wp2_with (refine ⟨trivial,?_⟩;gi_at_call 37;refine (CallsIn.inRound l (callsIn_wide.2 (Q4 x _ hxl))).mono ?_;rintro e w1 ⟨rfl,rfl⟩)
     exact ⟨⟨Nat.le_refl _,fun _ _ _=>rfl⟩,fun y hy=>(List.mem_append.1 hy).elim (hpre y) (fun e=>by rw [List.mem_singleton.1 e];exact hb),hX⟩
   case done =>
    rintro X ⟨hpre,hX⟩ hK
    obtain ⟨hX',hnd', -⟩:=qbF hW hnd hX (D:=W.heap.size + 3) (by simpa using hK) (by omega)
    have hall:(qm ps[i]).all ql = true:=List.all_eq_true.2 hpre
    cases hgt:yF ps[i]
    ·have hpe:qM ps[i] = 0:=by simp [qM,hall,hgt]
     gi_wp2_with (refine ⟨trivial,?_⟩;gi_at_call 143;refine (callsIn_wide.2 (KN _ _)).mono ?_;rintro e w1 ⟨rfl,hg⟩;have hY:=hX'.grown hg nofun)
     refine ⟨⟨i + 1,(W.heap.size + 3) :: Ds,_,_,_,_,_,_,_,_,_,_,_,_,_,_,by omega,by rw [herr,Jv hlt,hpe];rfl,hnd',hY,rfl⟩,?_⟩
     simp [intOf]
     omega
    ·have hpe:qM ps[i] = 2:=by simp [qM,hall,hgt]
     have hz:y6 ps = 2:=by rw [herr,Jv hlt,hpe];rfl
     gi_wp2_with (refine ⟨trivial,?_⟩;gi_at_call 143;refine (callsIn_wide.2 (KN _ _)).mono ?_;rintro e w1 ⟨rfl,hg⟩;have hY:=hX'.grown hg nofun;have cY:=(xt hY.cell).1;have fY:=(xt hY.cell).2)
     rw [hz]
     exact Jd (hY.set 2) hnd' rfl
   case stop =>
    rintro pre X hpre ⟨⟨x,hx,hb⟩,hX⟩ hK
    obtain ⟨hX',hnd', -⟩:=qbF hW hnd hX (D:=W.heap.size + 3) (by simpa using hK) (by omega)
    have hall:¬ (qm ps[i]).all ql = true:=fun h=>by
     have:=List.all_eq_true.1 h x (hpre.subset hx)
     rw [hb] at this;cases this
    have hpe:qM ps[i] = 1:=by simp only [qM,hall];rfl
    have hz:y6 ps = 1:=by rw [herr,Jv hlt,hpe];rfl
    gi_wp2
    rw [hz]
    simp only [World.size_alloc]
    exact Jd hX' hnd' rfl
  ·have hz:y6 ps = 0:=by rw [herr,List.drop_of_length_le (by omega)];rfl
   gi_wp2
   rw [hz]
   exact Jd (hW.set 0) hnd rfl
theorem qdN (ps:List qC) (hps:ps.length ≤ 1000000) (hsz : ∀ p,p ∈ ps → p.length ≤ 140737488355328):jO C.P 112 [.sl false (ps.map jr)] (.v (.int .i64 (y6 ps))):=by
 refine qbH rfl fun F ρ vs w hag hl hm=>?_
 obtain ⟨v,rfl⟩ : ∃ v,vs = [v]:=by
  match vs,hl with
  | [v],_=>exact ⟨v,rfl⟩
 have h1:=hm 0 v _ rfl rfl
 rcases h1.sl_inv with ⟨h0,ad,cap,hv,_⟩|⟨b,o,cap,c,e',fr,kk,hb,_,_,hsz',hkk,hR,hv⟩
 ·have hnil:ps = []:=List.map_eq_nil_iff.1 h0
  subst hnil
  rw [hv]
  exact KS [] hps hsz ad cap w (fun i h=>absurd h (Nat.not_lt_zero _))
 ·rw [hv]
  have hk1 : ∀ i,i < ps.length → kk = 1:=fun i hi=>(hkk _ (List.getElem_mem (l:=ps.map jr) (n:=i) (by simpa using hi))).symm.trans (by simp [jr])
  have hbw:=hag b _ hb
  have:=KS ps hps hsz (some ⟨b,o,Option.none⟩) cap w (fun i hi=>⟨b,o,rfl,(Array.getElem?_eq_some_iff.1 hbw).1,?_⟩)
  ·rw [List.length_map];exact this
  ·have hk:=hk1 i hi
   subst hk
   have hlt:o + i < c.size:=by simp at hsz';omega
   have hcv:c[o + i]? = some c[o + i]:=Array.getElem?_eq_getElem hlt
   have hrow:(ps.map jr)[i]? = some (jr ps[i]):=by simp [hi]
   have hMv:=hR i 0 (jr ps[i]) (.v (str ps[i])) c[o + i] hrow rfl (by simpa using hcv)
   have:=hMv.v_inv.1
   simp [World.cell?,hbw,hcv,this,str]
end Go.Proofs.YtiljlcgmcmjcoaaGreatDoor
set_option linter.unusedSimpArgs false
set_option linter.unnecessarySimpa false
set_option maxHeartbeats 1000000
namespace Go.Proofs.YtiljlcgmcmjcoaaGreatDoor
open Go.Ab Go.RowKit
set_option maxRecDepth 10000
attribute [local irreducible] Awp ye ji qQ Red qF Go.Ab.Fin qo Rz xx qG qO ResOk jK je jX qW
theorem qg6 (s:qC) (c:UInt8) (hs:s.length ≤ 9223372036854775807):jO C.P 194 [.v (str s),.v (.int .u8 (c.toNat:Int))] (.v (.int .i64 (vn c s))):=by
 refine qa Tryz.func194 rfl _ Tryz.ntmps194 (Nat.le_of_ble_eq_true rfl) _ Tryz.results194 0 rfl rfl ?_
 repeat' (first|refine qe ?_|fail|((first|refine xsC ?_ ?_);all_goals (intro hc;have hp:=hc;try simp at hp;try (exfalso;omega)))|refine qp ?_ ?_)
 (refine Awp.red (qg (ts:=[(0,.v (str s)),(1,.v (.int .u8 (c.toNat:Int))),(5,.v (.int .i64 ((s.length:Int) - 1 - ((0:Nat):Int))))]) ?_) ?_;((repeat (first|exact qd|refine qi ?_|refine qI ?_ ?_))))
 all_goals try (apply wQ;omega)
 refine qq (fun n σ => ∃ i:Nat,i ≤ s.length ∧ n = s.length - i ∧ (c ∉ s.drop (s.length - i)) ∧ σ = ⟨[(0,.v (str s)),(1,.v (.int .u8 (c.toNat:Int))),(5,.v (.int .i64 ((s.length:Int) - 1 - (i:Int))))],[],C.nh⟩) s.length ⟨0,Nat.zero_le _,rfl,(by simp),rfl⟩ ?_
 rintro n σ ⟨i,hi,rfl,hsofar,rfl⟩
 by_cases hlt:i < s.length
 ·have hx:(s.length:Int) - 1 - (i:Int) = ((s.length - 1 - i:Nat):Int):=by omega
  have hk:s.length - 1 - i < s.length:=by omega
  have hr:s[s.length - 1 - i]? = some s[s.length - 1 - i]:=List.getElem?_eq_getElem hk
  rw [hx]
  repeat' (first|refine qe ?_|fail|((first|refine xsC ?_ ?_);all_goals (intro hc;have hp:=hc;try simp at hp;try (exfalso;omega)))|refine qp ?_ ?_)
  all_goals try (exfalso;omega)
  ·apply qE
   rfl
   have hc:s[s.length - 1 - i] = c:=UInt8.toNat.inj (by omega)
   exact (qcd hk hc (by rw [show s.length - 1 - i + 1 = s.length - i from by omega];exact hsofar)).symm
  ·have hc:¬ s[s.length - 1 - i] = c:=fun e=>by subst e;omega
   have hnext:c ∉ s.drop (s.length - (i + 1)):=by
    rw [show s.length - (i + 1) = s.length - 1 - i from by omega,List.drop_eq_getElem_cons hk,show s.length - 1 - i + 1 = s.length - i from by omega]
    simp only [List.mem_cons,not_or]
    exact ⟨fun e=>hc e.symm,hsofar⟩
   refine ⟨s.length - (i + 1),_,by omega,qg (ts:=[(0,.v (str s)),(1,.v (.int .u8 (c.toNat:Int))),(5,.v (.int .i64 ((s.length:Int) - 1 - ((i + 1:Nat):Int))))]) ?_,i + 1,by omega,rfl,hnext,rfl⟩;((repeat (first|exact qd|refine qi ?_|refine qI ?_ ?_));all_goals (apply wQ;omega))
 obtain rfl:i = s.length:=by omega
 rw [show (s.length:Int) - 1 - (s.length:Int) = -1 from by omega]
 repeat' (first|refine qe ?_|fail|((first|refine xsC ?_ ?_);all_goals (intro hc;have hp:=hc;try simp at hp;try (exfalso;omega)))|refine qp ?_ ?_)
 all_goals try (exfalso;omega)
 apply qE
 rfl
 have:c ∉ s:=by simpa using hsofar
 exact (zB this).symm
theorem qiQ (s:qC) (c:UInt8) (hs:s.length ≤ 9223372036854775807):jO C.P 180 [.v (str s),.v (.int .u8 (c.toNat:Int))] (.v (.int .i64 (vn c s))):=by
 refine qa Tryz.func180 rfl _ Tryz.ntmps180 (Nat.le_of_ble_eq_true rfl) _ Tryz.results180 0 rfl rfl ?_
 repeat' (first|refine qe ?_|(first|refine xsF Tryz.func194 (qg6 s c hs ..) ?_)|((first|refine xsC ?_ ?_);all_goals (intro hc;have hp:=hc;try simp at hp;try (exfalso;omega)))|refine qp ?_ ?_)
 apply qE
 rfl
 rfl
theorem qhw (s:qC) (hs:s.length ≤ 9223372036854775800):jO C.P 169 [.v (str s)] (.tup [.v (str (qR s)),.v (str (vp s))]):=by
 have hl:=qiQ s 47 (by omega)
 have hbd:=Zt 47 s
 have hpd:qR s = s.take (vn 47 s).toNat:=rfl
 have hld:vp s = s.drop (vn 47 s + 1).toNat:=rfl
 generalize vn 47 s = k at hl hbd hpd hld
 refine qa Tryz.func169 rfl _ Tryz.ntmps169 (Nat.le_of_ble_eq_true rfl) _ Tryz.results169 0 rfl rfl ?_
 repeat' (first|refine qe ?_|(first|refine xsF Tryz.func180 (hl ..) ?_|(apply qj;apply qht;(case hx=>rfl);(case hy=>rfl);(case hN=>exact nle rfl))|(apply qj;apply ze (a:=0) (b:=k.toNat);(case hx=>rfl);(case hT=>rfl);(case he=>rfl);(case ha=>rfl);(case hb=>exact ⟨_,rfl⟩);(case hab=>(first|omega|(simp;done)|(simp only [List.length_cons,List.length_nil,List.length_map];omega)|(simp;omega)));(case hbl=>(first|omega|(simp;done)|(simp only [List.length_cons,List.length_nil,List.length_map];omega)|(simp;omega)));(case hN=>exact nle rfl))|(apply qj;apply ze (a:=(k + 1).toNat) (b:=s.length);(case hx=>rfl);(case hT=>rfl);(case he=>rfl);(case ha=>exact ⟨_,wQ (by omega)⟩);(case hb=>rfl);(case hab=>(first|omega|(simp;done)|(simp only [List.length_cons,List.length_nil,List.length_map];omega)|(simp;omega)));(case hbl=>(first|omega|(simp;done)|(simp only [List.length_cons,List.length_nil,List.length_map];omega)|(simp;omega)));(case hN=>exact nle rfl)))|((first|refine xsC ?_ ?_);all_goals (intro hc;have hp:=hc;try simp at hp;try (exfalso;omega)))|refine qp ?_ ?_)
 all_goals try (exfalso;omega)
 (refine yu (rs:=[.tmp 2,.tmp 3]) ?_;(repeat' (first|exact qL|apply qk|exact qB rfl|exact yi|exact vS|apply jT|apply yl|apply jQ|apply yo|apply jY|apply yq|refine vY ?_|apply y0));all_goals (first|exact hpd.symm|(rw [hld,List.take_length])))
end Go.Proofs.YtiljlcgmcmjcoaaGreatDoor
set_option linter.unusedSimpArgs false
set_option linter.unnecessarySimpa false
set_option maxHeartbeats 1000000
namespace Go.Proofs.YtiljlcgmcmjcoaaGreatDoor
open Go.Ab Go.RowKit
set_option maxRecDepth 10000
attribute [local irreducible] Awp ye ji qQ Red qF Go.Ab.Fin qo Rz xx qG qO ResOk jK je jX qW
theorem qaU (q s:qC):q.isPrefixOf s = (decide (q.length ≤ s.length) && decide (s.take q.length = q)):=by
 rw [Bool.eq_iff_iff,List.isPrefixOf_iff_prefix,Bool.and_eq_true,decide_eq_true_iff,decide_eq_true_iff,List.prefix_iff_eq_take]
 constructor
 ·intro h
  have h2:=congrArg List.length h
  rw [List.length_take] at h2
  exact ⟨by omega,h.symm⟩
 ·rintro ⟨_,h⟩;exact h.symm
theorem qeJ (s q:qC):jO C.P 205 [.v (str s),.v (str q)] (.v (.bool (q.isPrefixOf s))):=by
 have hpt:=qaU q s
 refine qa Tryz.func205 rfl _ Tryz.ntmps205 (Nat.le_of_ble_eq_true rfl) _ Tryz.results205 0 rfl rfl ?_
 repeat' (first|refine qe ?_|(first|(apply qj;apply ze (a:=0) (b:=q.length);(case hx=>rfl);(case hT=>rfl);(case he=>rfl);(case ha=>rfl);(case hb=>exact ⟨_,rfl⟩);(case hab=>(first|omega|(simp;done)|(simp only [List.length_cons,List.length_nil,List.length_map];omega)|(simp;omega)));(case hbl=>(first|omega|(simp;done)|(simp only [List.length_cons,List.length_nil,List.length_map];omega)|(simp;omega)));(case hN=>exact nle rfl)))|((first|refine qb ?_ ?_|refine qc ?_ ?_|refine xsC ?_ ?_);all_goals (intro hc;have hp:=hc;try simp at hp;try (exfalso;omega)))|refine qp ?_ ?_)
 all_goals try (exfalso;omega)
 ·apply jd
  rfl
  have:q.length ≤ s.length:=by omega
  rw [hpt];simp [this]
 ·apply jd
  rfl
  have:¬ q.length ≤ s.length:=by omega
  rw [hpt];simp [this]
theorem qf9 (s q:qC):jO C.P 197 [.v (str s),.v (str q)] (.v (.bool (q.isPrefixOf s))):=by
 refine qa Tryz.func197 rfl _ Tryz.ntmps197 (Nat.le_of_ble_eq_true rfl) _ Tryz.results197 0 rfl rfl ?_
 repeat' (first|refine qe ?_|(first|refine xsF Tryz.func205 (qeJ s q ..) ?_)|((first|refine xsC ?_ ?_);all_goals (intro hc;have hp:=hc;try simp at hp;try (exfalso;omega)))|refine qp ?_ ?_)
 apply jd
 rfl
 rfl
theorem qek (p q:qC) (hq:q.length ≤ 140737488355328):jO C.P 186 [.v (str p),.v (str q)] (.v (.bool (inB p q))):=by
 have hpr:=qf9 p (q ++ [47])
 refine qa Tryz.func186 rfl _ Tryz.ntmps186 (Nat.le_of_ble_eq_true rfl) _ Tryz.results186 0 rfl rfl ?_
 repeat' (first|refine qe ?_|(first|refine xsF Tryz.func197 (hpr ..) ?_)|((first|refine qb ?_ ?_|refine qc ?_ ?_|refine xsC ?_ ?_);all_goals (intro hc;have hp:=hc;try simp at hp;try (exfalso;omega)))|refine qp ?_ ?_)
 all_goals (apply jd;rfl;simp_all [inB])
theorem WE (p:qC):y6 [p] = qM p:=by
 simp only [y6];split<;>simp_all
theorem qfZ (p:qC) (hp:p.length ≤ 140737488355328):jO C.P 112 [.sl false [[.v (str p)]]] (.v (.int .i64 (qM p))):=by
 have:=qdN [p] (by simp) (by simpa using hp)
 rw [WE] at this
 exact this
theorem ZP (p:qC) (hp:p.length ≤ 140737488355328):jO C.P 66 [.v (str p)] (.v (.int .i64 (qM p))):=by
 have hch:=qfZ p hp
 refine qa Tryz.func66 rfl _ Tryz.ntmps66 (Nat.le_of_ble_eq_true rfl) _ Tryz.results66 0 rfl rfl ?_
 repeat' (first|refine qe ?_|(first|(refine jN ?_)|refine xsQ Tryz.func112 (hch ..) ?_)|((first|refine xsC ?_ ?_);all_goals (intro hc;have hp:=hc;try simp at hp;try (exfalso;omega)))|refine qp ?_ ?_)
 apply qE
 rfl
 rfl
def qil (e:Int) (s:qC):qC:=if e = 0 then s else []
def zj (p f t:qC):Int:=if y6 [p,f,t] = 0 then (if inB p f then (if yF (t ++ p.drop f.length) then 2 else 0) else 5) else y6 [p,f,t]
theorem qhu {p f:qC} (h:inB p f = true):f.length ≤ p.length:=by
 simp only [inB,Bool.or_eq_true,decide_eq_true_eq,List.isPrefixOf_iff_prefix] at h
 rcases h with rfl|h
 ·exact Nat.le_refl _
 ·have:=h.length_le;simp at this;omega
theorem qdT (p f t:qC) (hp:p.length ≤ 140737488355328) (hf:f.length ≤ 140737488355328) (ht:t.length ≤ 140737488355328):jO C.P 191 [.v (str p),.v (str f),.v (str t)] (.tup [.v (str (qil (zj p f t) (t ++ p.drop f.length))),.v (.int .i64 (zj p f t))]):=by
 have hch:jO C.P 112 [.sl false [[.v (str p)],[.v (str f)],[.v (str t)]]] (.v (.int .i64 (y6 [p,f,t]))):=qdN [p,f,t] (by simp) (by simpa using ⟨hp,hf,ht⟩)
 have hi:=qek p f hf
 have hg:=qg9 (t ++ p.drop f.length)
 have hln := @qhu p f
 have htk:p.take p.length = p:=List.take_length
 cases hb:inB p f with
 | false =>
   rw [hb] at hi
   refine qa Tryz.func191 rfl _ Tryz.ntmps191 (Nat.le_of_ble_eq_true rfl) _ Tryz.results191 0 rfl rfl ?_
   repeat' (first|refine qe ?_|(first|(refine jN ?_)|refine xsQ Tryz.func112 (hch ..) ?_|refine xsF Tryz.func186 (hi ..) ?_)|((first|refine xsC ?_ ?_);all_goals (intro hc;have hp:=hc;try simp at hp;try (exfalso;omega)))|refine qp ?_ ?_)
   all_goals ((refine yu (rs:=[.tmp 6,.tmp 7]) ?_;(repeat' (first|exact qL|apply qk|exact qB rfl|exact yi|exact vS|apply jT|apply yl|apply jQ|apply yo|apply jY|apply yq|refine vY ?_|apply y0));all_goals (simp_all [qil,zj])))
 | true =>
   rw [hb] at hi
   have hfl:=hln hb
   have hdl:(p.drop f.length).length ≤ p.length:=by simp
   refine qa Tryz.func191 rfl _ Tryz.ntmps191 (Nat.le_of_ble_eq_true rfl) _ Tryz.results191 0 rfl rfl ?_
   repeat' (first|refine qe ?_|(first|(refine jN ?_)|refine xsQ Tryz.func112 (hch ..) ?_|refine xsF Tryz.func186 (hi ..) ?_|(apply qj;apply ze (a:=f.length) (b:=p.length);(case hx=>rfl);(case hT=>rfl);(case he=>rfl);(case ha=>exact ⟨_,rfl⟩);(case hb=>rfl);(case hab=>(first|omega|(simp;done)|(simp only [List.length_cons,List.length_nil,List.length_map];omega)|(simp;omega)));(case hbl=>(first|omega|(simp;done)|(simp only [List.length_cons,List.length_nil,List.length_map];omega)|(simp;omega)));(case hN=>exact nle rfl))|(apply qN Tryz.func143 rfl rfl;intro hIsFn;refine qat hIsFn ((htk.symm ▸ hg) ..) ?_;skip))|((first|refine xsC ?_ ?_);all_goals (intro hc;have hp:=hc;try simp at hp;try (exfalso;omega)))|refine qp ?_ ?_)
   all_goals ((refine yu (rs:=[.tmp 6,.tmp 7]) ?_;(repeat' (first|exact qL|apply qk|exact qB rfl|exact yi|exact vS|apply jT|apply yl|apply jQ|apply yo|apply jY|apply yq|refine vY ?_|apply y0));all_goals (simp_all [qil,zj])))
end Go.Proofs.YtiljlcgmcmjcoaaGreatDoor
set_option linter.unusedSimpArgs false
set_option linter.unnecessarySimpa false
set_option maxHeartbeats 1000000
namespace Go.Proofs.YtiljlcgmcmjcoaaGreatDoor
open Go.Ab Go.RowKit
set_option maxRecDepth 10000
attribute [local irreducible] Awp ye ji qQ Red qF Go.Ab.Fin qo Rz xx qG qO ResOk jK je jX qW
end Go.Proofs.YtiljlcgmcmjcoaaGreatDoor
set_option linter.unusedSimpArgs false
set_option linter.unnecessarySimpa false
set_option maxHeartbeats 1000000
namespace Go.Proofs.YtiljlcgmcmjcoaaGreatDoor
open Go.Ab Go.RowKit
set_option maxRecDepth 10000
attribute [local irreducible] Awp ye ji qQ Red qF Go.Ab.Fin qo Rz xx qG qO ResOk jK je jX qW
end Go.Proofs.YtiljlcgmcmjcoaaGreatDoor
set_option linter.unusedSimpArgs false
set_option linter.unnecessarySimpa false
set_option maxHeartbeats 1000000
namespace Go.Proofs.YtiljlcgmcmjcoaaGreatDoor
open Go.Ab Go.RowKit
set_option maxRecDepth 10000
attribute [local irreducible] Awp ye ji qQ Red qF Go.Ab.Fin qo Rz xx qG qO ResOk jK je jX qW
def fromN (p:qC) (i:Nat):Nat:=i - (vp (p.take i)).length
def nsL (p:qC) (i:Nat):List qC:=(qm (p.take i)).dropLast
@[simp] theorem qi0 (p:qC):nsL p 0 = []:=rfl
@[simp] theorem qiH (p:qC):fromN p 0 = 0:=rfl
@[simp] theorem qia (s:qC):cellsOf (AV.v (str s)) = [AV.v (str s)]:=rfl
theorem qdF {s:qC} {X:List qC} {y:qC} (h:qm s = X ++ [y]):(qm s).dropLast = X ∧ vp s = y:=by
 have h1:=(kn s).1
 rw [h,List.dropLast_concat] at h1
 refine ⟨by rw [h,List.dropLast_concat],?_⟩
 have:=List.append_cancel_left h1
 simpa using this.symm
theorem qc0 {p:qC} {i:Nat} (h:i < p.length) (hc:p[i] = 47):nsL p (i + 1) = nsL p i ++ [vp (p.take i)] ∧ fromN p (i + 1) = i + 1:=by
 have e:p.take (i + 1) = p.take i ++ [47]:=by rw [List.take_succ_eq_append_getElem h,hc]
 obtain ⟨h1,h2⟩:=qdF (KG (p.take i))
 refine ⟨?_,?_⟩
 ·show (qm (p.take (i + 1))).dropLast = _
  rw [e,h1];exact (kn (p.take i)).1
 ·show i + 1 - (vp (p.take (i + 1))).length = _
  rw [e,h2];rfl
theorem qcE {p:qC} {i:Nat} (h:i < p.length) (hc:¬ p[i] = 47):nsL p (i + 1) = nsL p i ∧ fromN p (i + 1) = fromN p i:=by
 have e:p.take (i + 1) = p.take i ++ [p[i]]:=List.take_succ_eq_append_getElem h
 obtain ⟨h1,h2⟩:=qdF (qaq hc (p.take i))
 refine ⟨?_,?_⟩
 ·show (qm (p.take (i + 1))).dropLast = _
  rw [e,h1];rfl
 ·show i + 1 - (vp (p.take (i + 1))).length = _
  rw [e,h2];unfold fromN;simp
theorem qd4 {p:qC} {i:Nat} (h:i ≤ p.length):fromN p i ≤ i ∧ (p.take i).drop (fromN p i) = vp (p.take i):=by
 have:=(Ky (p.take i)).2
 rw [List.length_take,Nat.min_eq_left h] at this
 exact ⟨Nat.sub_le _ _,this⟩
theorem qhJ (p:qC) (i:Nat):(nsL p i).length ≤ p.length:=by
 unfold nsL
 rw [List.length_dropLast,Jr]
 have h1:(p.take i).count 47 ≤ (p.take i).length:=List.count_le_length
 have h2:(p.take i).length ≤ p.length:=by rw [List.length_take];omega
 omega
theorem kb (p:qC) (hp:p.length ≤ 4000000000):jO C.P 165 [.v (str p)] (.sl false ((qm p).map jr)):=by
 refine qa Tryz.func165 rfl _ Tryz.ntmps165 (Nat.le_of_ble_eq_true rfl) _ Tryz.results165 0 rfl rfl ?_
 repeat' (first|refine qe ?_|fail|((first|refine xsC ?_ ?_);all_goals (intro hc;have hp:=hc;try simp at hp;try (exfalso;omega)))|refine qp ?_ ?_)
 refine Awp.red (zd 3 1 rfl (Nat.zero_le _)) ?_
 (refine Awp.red (qY (τ:=⟨[(0,.v (str p)),(3,.os 0 0 (nsL p 0).length),(4,.v (.int .i64 ((fromN p 0:Nat):Int))),(5,.v (.int .i64 ((0:Nat):Int)))],[(0,.own false 1 ((nsL p 0).map jr))],1⟩) [(0,0)] rfl ?gts ?ghs) ?gmain;(case gts=>(repeat (first|exact qd|refine qi ?_|refine xd ?_|refine xL ?_|refine qI ?_ ?_)));(case ghs=>(repeat (first|exact qf|refine jV ?_|refine qH ?_ ?_))))
 refine qq (fun n σ => ∃ i:Nat,i ≤ p.length ∧ n = p.length - i ∧ (True) ∧ σ = ⟨[(0,.v (str p)),(3,.os 0 0 (nsL p i).length),(4,.v (.int .i64 ((fromN p i:Nat):Int))),(5,.v (.int .i64 (i:Int)))],[(0,.own false 1 ((nsL p i).map jr))],1⟩) p.length ⟨0,Nat.zero_le _,rfl,trivial,rfl⟩ ?_
 rintro n σ ⟨i,hi,rfl, -,rfl⟩
 have hnl:=qhJ p i
 by_cases hlt:i < p.length
 ·have hr:p[i]? = some p[i]:=List.getElem?_eq_getElem hlt
  obtain ⟨hfl,hfd⟩:=qd4 hi
  have hs1 := @qc0 p i hlt
  have hs2 := @qcE p i hlt
  generalize hF:fromN p i = fr at hfl hfd hs1 hs2 ⊢
  repeat' (first|refine qe ?_|(first|(apply qj;apply ze (a:=fr) (b:=i);(case hx=>rfl);(case hT=>rfl);(case he=>rfl);(case ha=>exact ⟨_,rfl⟩);(case hb=>exact ⟨_,rfl⟩);(case hab=>(first|omega|(simp;done)|(simp only [List.length_cons,List.length_nil,List.length_map];omega)|(simp;omega)));(case hbl=>(first|omega|(simp;done)|(simp only [List.length_cons,List.length_nil,List.length_map];omega)|(simp;omega)));(case hN=>exact nle rfl))|(refine jN ?_)|(refine yX ?_))|((first|refine xsC ?_ ?_);all_goals (intro hc;have hp:=hc;try simp at hp;try (exfalso;omega)))|refine qp ?_ ?_)
  all_goals try (exfalso;omega)
  ·have hc:p[i] = 47:=UInt8.toNat.inj (by show p[i].toNat = 47;omega)
   obtain ⟨hk,hk2⟩:=hs1 hc
   refine ⟨p.length - (i + 1),_,by omega,qY (τ:=⟨[(0,.v (str p)),(3,.os 0 0 (nsL p (i + 1)).length),(4,.v (.int .i64 ((fromN p (i + 1):Nat):Int))),(5,.v (.int .i64 ((i + 1:Nat):Int)))],[(0,.own false 1 ((nsL p (i + 1)).map jr))],1⟩) [(1,0)] rfl ?gts ?ghs,i + 1,by omega,rfl,trivial,rfl⟩;(case gts=>(repeat (first|exact qd|refine qi ?_|refine xd ?_|refine xL ?_|refine qI ?_ ?_));all_goals (first|(rw [hk2];rfl)|(rw [hk2])|(rw [hk,hfd,List.take_of_length_le (by simp)];simp [jr])));(case ghs=>(repeat (first|exact qf|refine jV ?_|refine qH ?_ ?_));all_goals (first|(rw [hk2];rfl)|(rw [hk2])|(rw [hk,hfd,List.take_of_length_le (by simp)];simp [jr])))
  ·have hc:¬ p[i] = 47:=fun e=>by rw [e] at hp;simp at hp
   obtain ⟨hk,hk2⟩:=hs2 hc
   refine ⟨p.length - (i + 1),_,by omega,qY (τ:=⟨[(0,.v (str p)),(3,.os 0 0 (nsL p (i + 1)).length),(4,.v (.int .i64 ((fromN p (i + 1):Nat):Int))),(5,.v (.int .i64 ((i + 1:Nat):Int)))],[(0,.own false 1 ((nsL p (i + 1)).map jr))],1⟩) [(0,0)] rfl ?gts ?ghs,i + 1,by omega,rfl,trivial,rfl⟩;(case gts=>(repeat (first|exact qd|refine qi ?_|refine xd ?_|refine xL ?_|refine qI ?_ ?_));all_goals (first|(rw [hk2];rfl)|(rw [hk2])|(rw [hk])));(case ghs=>(repeat (first|exact qf|refine jV ?_|refine qH ?_ ?_));all_goals (first|(rw [hk2];rfl)|(rw [hk2])|(rw [hk])))
 obtain rfl:i = p.length:=by omega
 obtain ⟨hfl,hfd⟩:=qd4 hi
 generalize hF:fromN p p.length = fr at hfl hfd ⊢
 repeat' (first|refine qe ?_|(first|(apply qj;apply ze (a:=fr) (b:=p.length);(case hx=>rfl);(case hT=>rfl);(case he=>rfl);(case ha=>exact ⟨_,rfl⟩);(case hb=>rfl);(case hab=>(first|omega|(simp;done)|(simp only [List.length_cons,List.length_nil,List.length_map];omega)|(simp;omega)));(case hbl=>(first|omega|(simp;done)|(simp only [List.length_cons,List.length_nil,List.length_map];omega)|(simp;omega)));(case hN=>exact nle rfl))|(refine jN ?_)|(refine yX ?_))|((first|refine xsC ?_ ?_);all_goals (intro hc;have hp:=hc;try simp at hp;try (exfalso;omega)))|refine qp ?_ ?_)
 all_goals try (exfalso;omega)
 have hall:nsL p p.length ++ [vp p] = qm p:=by unfold nsL;rw [List.take_length];exact (kn p).1.symm
 rw [List.take_length] at hfd
 (refine yu (rs:=[.tmp 2]) ?_;(repeat' (first|exact qL|apply qk|exact qB rfl|exact yi|exact vS|apply jT|apply yl|apply jQ|apply yo|apply jY|apply yq|refine vY ?_|apply y0));all_goals (rw [← hall,List.take_of_length_le (by simp),List.take_length,hfd];simp [jr]))
theorem zF (p:qC):(qm p).length ≤ p.length + 1:=by
 rw [Jr]
 have:p.count 47 ≤ p.length:=List.count_le_length
 omega
theorem Kd (p:qC) (hp:p.length ≤ 4000000000):jO C.P 166 [.v (str p)] (.v (.bool (yF p))):=by
 have hn:=kb p hp
 have htg:yF p = (decide (6 < (qm p).length) || decide (80 < p.length)):=rfl
 refine qa Tryz.func166 rfl _ Tryz.ntmps166 (Nat.le_of_ble_eq_true rfl) _ Tryz.results166 0 rfl rfl ?_
 repeat' (first|refine qe ?_|(first|refine xsQ Tryz.func165 (hn ..) ?_)|((first|refine qb ?_ ?_|refine qc ?_ ?_|refine xsC ?_ ?_);all_goals (intro hc;have hp:=hc;try simp at hp;try (exfalso;omega)))|refine qp ?_ ?_)
 all_goals (apply jd;rfl;rw [htg])
 all_goals first
  | (have h6:¬ 6 < (qm p).length:=(by omega)
     simp [h6];done)
  | (have h6:6 < (qm p).length:=(by omega)
     simp [h6];done)
  | (have h6:¬ 6 < (qm p).length:=(by omega)
     simp [h6];omega)
theorem Jw (p:qC) (hp:p.length ≤ 4000000000):jO C.P 137 [.v (str p)] (.v (.int .i64 (qM p))):=by
 have hn:=kb p hp
 have hg:=Kd p hp
 have hpe:qM p = if (qm p).all ql = true then (if yF p = true then 2 else 0) else 1:=rfl
 have hsh : ∀ n,n ∈ qm p → n.length ≤ p.length:=fun n h=>Yn h
 have hmn:=zF p
 generalize qM p = E at hpe ⊢
 generalize qm p = L at hn hpe hsh hmn
 refine qa Tryz.func137 rfl _ Tryz.ntmps137 (Nat.le_of_ble_eq_true rfl) _ Tryz.results137 0 rfl rfl ?_
 repeat' (first|refine qe ?_|(first|refine xsQ Tryz.func165 (hn ..) ?_)|((first|refine xsC ?_ ?_);all_goals (intro hc;have hp:=hc;try simp at hp;try (exfalso;omega)))|refine qp ?_ ?_)
 (refine Awp.red (qg (ts:=[(0,.v (str p)),(3,.sl false (L.map jr)),(4,.v (.int .i64 ((0:Nat):Int)))]) ?_) ?_;((repeat (first|exact qd|refine qi ?_|refine qI ?_ ?_))))
 refine qq (fun n σ => ∃ i:Nat,i ≤ L.length ∧ n = L.length - i ∧ (∀ x,x ∈ L.take i → ql x = true) ∧ σ = ⟨[(0,.v (str p)),(3,.sl false (L.map jr)),(4,.v (.int .i64 (i:Int)))],[],C.nh⟩) L.length ⟨0,Nat.zero_le _,rfl,(by simp),rfl⟩ ?_
 rintro n σ ⟨i,hi,rfl,hsofar,rfl⟩
 by_cases hlt:i < L.length
 ·have hr:=qx (f:=jr) hlt
  have hnm:=vU L[i] (by have:=hsh L[i] (List.getElem_mem hlt);omega)
  repeat' (first|refine qe ?_|(first|refine xsF Tryz.func25 (hnm ..) ?_)|((first|refine xsC ?_ ?_);all_goals (intro hc;have hp:=hc;try simp at hp;try (exfalso;omega)))|refine qp ?_ ?_)
  all_goals try (exfalso;omega)
  ·apply qE
   rfl
   have hall:¬ L.all ql = true:=fun h=>by
    have:=List.all_eq_true.1 h L[i] (List.getElem_mem hlt)
    simp_all
   rw [hpe,if_neg hall]
  ·refine ⟨L.length - (i + 1),_,by omega,qg (ts:=[(0,.v (str p)),(3,.sl false (L.map jr)),(4,.v (.int .i64 ((i + 1:Nat):Int)))]) ?_,i + 1,by omega,rfl,qJ hlt hsofar (by assumption),rfl⟩;((repeat (first|exact qd|refine qi ?_|refine qI ?_ ?_)))
 obtain rfl:i = L.length:=by omega
 rw [List.take_length] at hsofar
 have hall:L.all ql = true:=List.all_eq_true.2 hsofar
 rw [if_pos hall] at hpe
 repeat' (first|refine qe ?_|(first|refine xsF Tryz.func166 (hg ..) ?_)|((first|refine xsC ?_ ?_);all_goals (intro hc;have hp:=hc;try simp at hp;try (exfalso;omega)))|refine qp ?_ ?_)
 all_goals try (exfalso;omega)
 all_goals (apply qE;rfl;simp_all)
end Go.Proofs.YtiljlcgmcmjcoaaGreatDoor
set_option linter.unusedSimpArgs false
set_option linter.unnecessarySimpa false
set_option maxHeartbeats 1000000
namespace Go.Proofs.YtiljlcgmcmjcoaaGreatDoor
open Go.Ab Go.RowKit
set_option maxRecDepth 10000
attribute [local irreducible] Awp ye ji qQ Red qF Go.Ab.Fin qo Rz xx qG qO ResOk jK je jX qW
theorem VM (l:List qC) (i:Nat):(xh (l.take i)).length ≤ (xh l).length:=by
 by_cases h1:l.take i = []
 ·rw [h1];simp [xh]
 ·by_cases h2:l.drop i = []
  ·have:=List.take_append_drop i l
   rw [h2,List.append_nil] at this
   rw [this];exact Nat.le_refl _
  ·have h3:=Q6 h1 h2
   rw [List.take_append_drop] at h3
   rw [h3];simp
theorem qcf {l:List qC} {i:Nat} (h:i < l.length):l[i].length ≤ (xh l).length:=by
 have h1:=VM l (i + 1)
 by_cases h0:i = 0
 ·subst h0
  rw [Y2 h] at h1;exact h1
 ·rw [VP h (by omega)] at h1
  simp at h1;omega
theorem qaC (l:List qC) (hl:l.length ≤ 8000000000) (hp:(xh l).length ≤ 8000000000):jO C.P 164 [.sl false (l.map jr)] (.v (str (xh l))):=by
 refine qa Tryz.func164 rfl _ Tryz.ntmps164 (Nat.le_of_ble_eq_true rfl) _ Tryz.results164 0 rfl rfl ?_
 repeat' (first|refine qe ?_|fail|((first|refine xsC ?_ ?_);all_goals (intro hc;have hp:=hc;try simp at hp;try (exfalso;omega)))|refine qp ?_ ?_)
 (refine Awp.red (qg (ts:=[(0,.sl false (l.map jr)),(3,.v (str (xh (l.take 0)))),(4,.v (.int .i64 ((0:Nat):Int)))]) ?_) ?_;((repeat (first|exact qd|refine qi ?_|refine qI ?_ ?_))))
 refine qq (fun n σ => ∃ i:Nat,i ≤ l.length ∧ n = l.length - i ∧ (True) ∧ σ = ⟨[(0,.sl false (l.map jr)),(3,.v (str (xh (l.take i)))),(4,.v (.int .i64 (i:Int)))],[],C.nh⟩) l.length ⟨0,Nat.zero_le _,rfl,trivial,rfl⟩ ?_
 rintro n σ ⟨i,hi,rfl, -,rfl⟩
 by_cases hlt:i < l.length
 ·have hr:=qx (f:=jr) hlt
  have hb1:=VM l i
  have hb2:=qcf hlt
  have hs0 := @VP l i hlt
  have hf0 := @Y2 l (by omega)
  repeat' (first|refine qe ?_|(first|(apply qj;apply V2;rfl;rfl;(simp only [List.length_append,List.length_cons,List.length_nil];omega);exact nle rfl))|((first|refine xsC ?_ ?_);all_goals (intro hc;have hp:=hc;try simp at hp;try (exfalso;omega)))|refine qp ?_ ?_)
  all_goals try (exfalso;omega)
  ·refine ⟨l.length - (i + 1),_,by omega,qg (ts:=[(0,.sl false (l.map jr)),(3,.v (str (xh (l.take (i + 1))))),(4,.v (.int .i64 ((i + 1:Nat):Int)))]) ?_,i + 1,by omega,rfl,trivial,rfl⟩;((repeat (first|exact qd|refine qi ?_|refine qI ?_ ?_));all_goals (rw [hs0 (by omega)]))
  ·have h0:i = 0:=by omega
   have hf1:xh (l.take (i + 1)) = l[i]:=by subst h0;exact hf0
   refine ⟨l.length - (i + 1),_,by omega,qg (ts:=[(0,.sl false (l.map jr)),(3,.v (str (xh (l.take (i + 1))))),(4,.v (.int .i64 ((i + 1:Nat):Int)))]) ?_,i + 1,by omega,rfl,trivial,rfl⟩;((repeat (first|exact qd|refine qi ?_|refine qI ?_ ?_));all_goals (rw [hf1];subst h0;rfl))
 obtain rfl:i = l.length:=by omega
 rw [List.take_length]
 repeat' (first|refine qe ?_|fail|((first|refine xsC ?_ ?_);all_goals (intro hc;have hp:=hc;try simp at hp;try (exfalso;omega)))|refine qp ?_ ?_)
 all_goals try (exfalso;omega)
 (exact j1 (rs:=[.tmp 2]))
theorem qeU (p:qC):0 < (qm p).length:=List.length_pos_iff.2 (vi p)
theorem yR (p:qC) (hp:p.length ≤ 4000000000):jO C.P 139 [.v (str p)] (.v (str (qR p))):=by
 have hn:=kb p hp
 have hm:=zF p
 have hpos:=qeU p
 obtain ⟨h1,h2⟩:=kn p
 have hpl:(qR p).length ≤ p.length:=by simp [qR];omega
 have hpo:=qaC (qm p).dropLast (by rw [List.length_dropLast];omega) (by rw [h2];omega)
 rw [h2,List.dropLast_eq_take,List.map_take] at hpo
 have hrk : ∀ row,row ∈ (qm p).map jr → row.length = 1:=fun row hr=>by obtain ⟨x,_,rfl⟩:=List.mem_map.1 hr;rfl
 generalize qm p = L at hn hm hpos hpo hrk
 have hml:(L.map jr).length = L.length:=List.length_map ..
 refine qa Tryz.func139 rfl _ Tryz.ntmps139 (Nat.le_of_ble_eq_true rfl) _ Tryz.results139 0 rfl rfl ?_
 repeat' (first|refine qe ?_|(first|refine xsQ Tryz.func165 (hn ..) ?_|(apply qj;apply xo (ex':=false) (a:=0) (b:=L.length - 1) (m:=0);(case hx=>rfl);(case hT=>rfl);(case he=>rfl);(case hE=>rfl);(case ha=>rfl);(case hb=>exact ⟨_,wQ (by omega)⟩);(case hm=>trivial);(case hab=>(first|omega|(simp;done)|(simp only [List.length_cons,List.length_nil,List.length_map];omega)|(simp;omega)));(case hbl=>(first|omega|(simp;done)|(simp only [List.length_cons,List.length_nil,List.length_map];omega)|(simp;omega)));(case hrk=>exact hrk);(case hex=>exact nofun);(case hN=>exact nle rfl))|refine xsQ Tryz.func164 (hpo ..) ?_)|((first|refine xsC ?_ ?_);all_goals (intro hc;have hp:=hc;try simp at hp;try (exfalso;omega)))|refine qp ?_ ?_)
 (exact j1 (rs:=[.tmp 2]))
theorem vI (p q:qC) (hp:p.length ≤ 4000000000) (hq:q.length ≤ 4000000000):jO C.P 162 [.v (str p),.v (str q)] (.v (.bool (inB p q))):=by
 have h1:=kb p hp
 have h2:=kb q hq
 have m1:=zF p
 have m2:=zF q
 rw [V0]
 generalize qm p = A at h1 m1 ⊢
 generalize qm q = B at h2 m2 ⊢
 refine qa Tryz.func162 rfl _ Tryz.ntmps162 (Nat.le_of_ble_eq_true rfl) _ Tryz.results162 0 rfl rfl ?_
 repeat' (first|refine qe ?_|(first|refine xsQ Tryz.func165 (h1 ..) ?_|refine xsQ Tryz.func165 (h2 ..) ?_)|((first|refine xsC ?_ ?_);all_goals (intro hc;have hp:=hc;try simp at hp;try (exfalso;omega)))|refine qp ?_ ?_)
 ·apply jd
  rfl
  rw [qcH (by simp at *;omega)]
 have hle:B.length ≤ A.length:=by simp at *;omega
 (refine Awp.red (qg (ts:=[(5,.sl false (A.map jr)),(6,.sl false (B.map jr)),(7,.v (.int .i64 ((0:Nat):Int)))]) ?_) ?_;((repeat (first|exact qd|refine qi ?_|refine qI ?_ ?_))))
 refine qq (fun n σ => ∃ i:Nat,i ≤ B.length ∧ n = B.length - i ∧ (∀ k (h1:k < B.length) (h2:k < A.length),k < i → A[k] = B[k]) ∧ σ = ⟨[(5,.sl false (A.map jr)),(6,.sl false (B.map jr)),(7,.v (.int .i64 (i:Int)))],[],C.nh⟩) B.length ⟨0,Nat.zero_le _,rfl,(fun k _ _ h=>absurd h (Nat.not_lt_zero _)),rfl⟩ ?_
 rintro n σ ⟨i,hi,rfl,hsofar,rfl⟩
 by_cases hlt:i < B.length
 ·have hr:=qx (f:=jr) hlt
  have hr':=qx (f:=jr) (l:=A) (i:=i) (by omega)
  repeat' (first|refine qe ?_|fail|((first|refine xsC ?_ ?_);all_goals (intro hc;have hp:=hc;try simp at hp;try (exfalso;omega)))|refine qp ?_ ?_)
  all_goals try (exfalso;omega)
  ·apply jd
   rfl
   rw [qdk hle hlt (by assumption)]
  ·refine ⟨B.length - (i + 1),_,by omega,qg (ts:=[(5,.sl false (A.map jr)),(6,.sl false (B.map jr)),(7,.v (.int .i64 ((i + 1:Nat):Int)))]) ?_,i + 1,by omega,rfl,(fun k h1 h2 hk=>by
    by_cases e:k = i
    ·subst e;assumption
    ·exact hsofar k h1 h2 (by omega)),rfl⟩;((repeat (first|exact qd|refine qi ?_|refine qI ?_ ?_)))
 obtain rfl:i = B.length:=by omega
 repeat' (first|refine qe ?_|fail|((first|refine xsC ?_ ?_);all_goals (intro hc;have hp:=hc;try simp at hp;try (exfalso;omega)))|refine qp ?_ ?_)
 all_goals try (exfalso;omega)
 apply jd
 rfl
 rw [qc4 hle fun k hk=>hsofar k hk (by omega) hk]
end Go.Proofs.YtiljlcgmcmjcoaaGreatDoor
set_option linter.unusedSimpArgs false
set_option linter.unnecessarySimpa false
set_option maxHeartbeats 1000000
namespace Go.Proofs.YtiljlcgmcmjcoaaGreatDoor
open Go.Ab Go.RowKit
set_option maxRecDepth 10000
attribute [local irreducible] Awp ye ji qQ Red qF Go.Ab.Fin qo Rz xx qG qO ResOk jK je jX qW
theorem qh0 (s:qC):jO C.P 131 [.v (str s)] (.v (.bool false)):=by
 refine qa Tryz.func131 rfl _ Tryz.ntmps131 (Nat.le_of_ble_eq_true rfl) _ Tryz.results131 0 rfl rfl ?_
 repeat' (first|refine qe ?_|fail|((first|refine xsC ?_ ?_);all_goals (intro hc;have hp:=hc;try simp at hp;try (exfalso;omega)))|refine qp ?_ ?_)
 all_goals (apply jd;rfl;simp)
theorem Ve (a b:qC):jO C.P 100 [.v (str a),.v (str b)] (.v (.int .i64 (zm a b))):=by
 refine qa Tryz.func100 rfl _ Tryz.ntmps100 (Nat.le_of_ble_eq_true rfl) _ Tryz.results100 0 rfl rfl ?_
 repeat' (first|refine qe ?_|(first|refine xsF Tryz.func131 (qh0 ..) ?_)|((first|refine xsC ?_ ?_);all_goals (intro hc;have hp:=hc;try simp at hp;try (exfalso;omega)))|refine qp ?_ ?_)
 all_goals (apply qE;rfl;simp_all [zm])
theorem qaP (n:Int):jO C.P 148 [.v (.int .i64 n)] (.v (.bool (v8 n))):=by
 refine qa Tryz.func148 rfl _ Tryz.ntmps148 (Nat.le_of_ble_eq_true rfl) _ Tryz.results148 0 rfl rfl ?_
 repeat' (first|refine qe ?_|fail|((first|refine qb ?_ ?_|refine qc ?_ ?_|refine xsC ?_ ?_);all_goals (intro hc;have hp:=hc;try simp at hp;try (exfalso;omega)))|refine qp ?_ ?_)
 all_goals (apply jd;rfl;simp_all [v8];try (intro _;omega))
theorem Kf (n:Int):jO C.P 110 [.v (.int .i64 n)] (.v (.bool (v8 n))):=by
 refine qa Tryz.func110 rfl _ Tryz.ntmps110 (Nat.le_of_ble_eq_true rfl) _ Tryz.results110 0 rfl rfl ?_
 repeat' (first|refine qe ?_|fail|((first|refine qb ?_ ?_|refine qc ?_ ?_|refine xsC ?_ ?_);all_goals (intro hc;have hp:=hc;try simp at hp;try (exfalso;omega)))|refine qp ?_ ?_)
 all_goals (apply jd;rfl;simp_all [v8];try (intro _;omega))
theorem WG (e:Ent) (he:e.small):jO C.P 140 [.agg e.row] (.v (.int .i64 (xI e))):=by
 have h1:=he.1
 have h2:=he.2
 have hp:=ZP e.path (by omega)
 have hv:=qaP e.ver
 have hE:xI e = if qM e.path = 0 then (if e.fold = true ∧ ¬ e.text = [] then 1 else if 300 < e.text.length then 2 else if v8 e.ver = true then 0 else 3) else qM e.path:=rfl
 generalize xI e = E at *
 generalize v8 e.ver = V at *
 generalize qM e.path = F at *
 refine qa Tryz.func140 rfl _ Tryz.ntmps140 (Nat.le_of_ble_eq_true rfl) _ Tryz.results140 0 rfl rfl ?_
 repeat' (first|refine qe ?_|(first|refine xsF Tryz.func66 (hp ..) ?_|refine xsF Tryz.func148 (hv ..) ?_)|((first|refine qb ?_ ?_|refine qc ?_ ?_|refine xsC ?_ ?_);all_goals (intro hc;have hp:=hc;try simp at hp;try (exfalso;omega)))|refine qp ?_ ?_)
 all_goals try (exfalso;omega)
 all_goals (apply qE;rfl;rw [hE];simp_all;try omega)
theorem qgp (e:Ent) (p:qC):jO C.P 114 [.agg e.row,.v (str p)] (.v (.int .i64 (zm e.path p))):=by
 refine qa Tryz.func114 rfl _ Tryz.ntmps114 (Nat.le_of_ble_eq_true rfl) _ Tryz.results114 0 rfl rfl ?_
 repeat' (first|refine qe ?_|(first|refine xsF Tryz.func100 (Ve ..) ?_)|((first|refine xsC ?_ ?_);all_goals (intro hc;have hp:=hc;try simp at hp;try (exfalso;omega)))|refine qp ?_ ?_)
 all_goals (apply qE;rfl;rfl)
theorem qez (l:List Ent) (p:qC) (hl:l.length ≤ 1000000000) (hs:qv yt l = true) :
  jO C.P 113 [qr l,.v (str p),.clo (.func 114) [] []] (.tup [.v (.int .i64 (xM l p)),.v (.bool (yV l p))]):=by
 refine qa Tryz.func113 rfl _ Tryz.ntmps113 (Nat.le_of_ble_eq_true rfl) _ Tryz.results113 0 rfl rfl ?_
 repeat' (first|refine qe ?_|fail|((first|refine qb ?_ ?_|refine qc ?_ ?_|refine xsC ?_ ?_);all_goals (intro hc;have hp:=hc;try simp at hp;try (exfalso;omega)))|refine qp ?_ ?_)
 (refine Awp.red (qg (ts:=[(0,qr l),(1,.v (str p)),(2,.clo (.func 114) [] []),(8,.v (.int .i64 l.length)),(9,.v (.int .i64 ((0:Nat):Int))),(10,.v (.int .i64 l.length))]) ?_) ?_;((repeat (first|exact qd|refine qi ?_|refine qI ?_ ?_))))
 all_goals try (rw [List.length_map];done)
 refine qq (fun n σ => ∃ lo hi:Nat,lo ≤ hi ∧ hi ≤ l.length ∧ n = hi - lo ∧ (∀ (k:Nat) (h:k < l.length),k < lo → Op.bytesLess l[k].path p = true) ∧ (∀ (k:Nat) (h:k < l.length),hi ≤ k → Op.bytesLess l[k].path p = false) ∧ σ = ⟨[(0,qr l),(1,.v (str p)),(2,.clo (.func 114) [] []),(8,.v (.int .i64 l.length)),(9,.v (.int .i64 ((lo:Nat):Int))),(10,.v (.int .i64 ((hi:Nat):Int)))],[],C.nh⟩) l.length ⟨0,l.length,by omega,Nat.le_refl _,rfl,fun _ _ h=>absurd h (by omega),fun _ _ h=>absurd h (by omega),rfl⟩ ?_
 rintro n σ ⟨lo,hi,hle,hhi,rfl,h1,h2,rfl⟩
 by_cases hlt:lo < hi
 ·obtain ⟨m,hm⟩ : ∃ m:Nat,m = (lo + hi) / 2:=⟨_,rfl⟩
  have hmi:((lo:Int) + (hi:Int)) / 2 = (m:Int):=by omega
  have hml:m < l.length:=by omega
  have hr:=qx (f:=Ent.row) hml
  have hr2:(l.map Ent.row)[(((lo:Int) + (hi:Int)) / 2).toNat]? = some l[m].row:=by rw [hmi];exact hr
  repeat' (first|refine qe ?_|(first|(apply qj;first|(apply XT;rfl;rfl;rfl;rfl;rfl;omega;omega;exact nle rfl)|(apply X2;rfl;rfl;rfl;rfl;rfl;omega;omega;exact nle rfl))|(apply qj;apply WS;(case hx=>rfl);(case hy=>rfl);(case hk=>decide);(case hN=>exact nle rfl))|(refine zO Tryz.func114 (qgp ..) ?_))|((first|refine qb ?_ ?_|refine qc ?_ ?_|refine xsC ?_ ?_);all_goals (intro hc;have hp:=hc;try simp at hp;try (exfalso;omega)))|refine qp ?_ ?_)
  all_goals try (exfalso;omega)
  ·have hmg:Op.bytesLess l[m].path p = true:=(kR _ _).1 hp
   refine ⟨hi - (m + 1),_,by omega,qg (ts:=[(0,qr l),(1,.v (str p)),(2,.clo (.func 114) [] []),(8,.v (.int .i64 l.length)),(9,.v (.int .i64 ((m + 1:Nat):Int))),(10,.v (.int .i64 ((hi:Nat):Int)))]) ?_,m + 1,hi,by omega,hhi,rfl,fun k h hk=>?_,h2,rfl⟩
   · (repeat (first|exact qd|refine qi ?_|refine qI ?_ ?_))
     all_goals (rw [hmi];rfl)
   ·by_cases e:k = m
    ·subst e;exact hmg
    ·exact vT (zW hs k m h hml (by omega)) hmg
  ·have hmg:Op.bytesLess l[m].path p = false:=(by
    cases h:Op.bytesLess l[m].path p
    ·rfl
    ·have:=(kR _ _).2 h;omega)
   refine ⟨m - lo,_,by omega,qg (ts:=[(0,qr l),(1,.v (str p)),(2,.clo (.func 114) [] []),(8,.v (.int .i64 l.length)),(9,.v (.int .i64 ((lo:Nat):Int))),(10,.v (.int .i64 ((m:Nat):Int)))]) ?_,lo,m,by omega,by omega,rfl,h1,fun k h hk=>?_,rfl⟩
   · (repeat (first|exact qd|refine qi ?_|refine qI ?_ ?_))
     all_goals (rw [hmi])
   ·by_cases e:k = m
    ·subst e;exact hmg
    ·cases hkg:Op.bytesLess l[k].path p
     ·rfl
     ·rw [vT (zW hs m k hml h (by omega)) hkg] at hmg;cases hmg
 obtain rfl:lo = hi:=by omega
 have hpos:xM l p = lo:=qas hhi h1 (fun h=>h2 lo h (by omega))
 by_cases hin:lo < l.length
 ·have hr:=qx (f:=Ent.row) hin
  have hhit:yV l p = decide (zm l[lo].path p = 0):=by
   rw [qbb hs,hpos,List.getElem?_eq_getElem hin]
  repeat' (first|refine qe ?_|(first|(refine zO Tryz.func114 (qgp ..) ?_))|((first|refine qb ?_ ?_|refine qc ?_ ?_|refine xsC ?_ ?_);all_goals (intro hc;have hp:=hc;try simp at hp;try (exfalso;omega)))|refine qp ?_ ?_)
  all_goals try (exfalso;omega)
  rw [hpos,hhit]
  (exact j1 (rs:=[.tmp 6,.tmp 7]))
 ·have hhit:yV l p = false:=by
   rw [qbb hs,hpos,List.getElem?_eq_none (by omega)]
  repeat' (first|refine qe ?_|(first|(refine zO Tryz.func114 (qgp ..) ?_))|((first|refine qb ?_ ?_|refine qc ?_ ?_|refine xsC ?_ ?_);all_goals (intro hc;have hp:=hc;try simp at hp;try (exfalso;omega)))|refine qp ?_ ?_)
  all_goals try (exfalso;omega)
  rw [hpos,hhit]
  (exact j1 (rs:=[.tmp 6,.tmp 7]))
theorem qhA (l:List Ent) (p:qC) (hl:l.length ≤ 1000000000) (hs:qv yt l = true) :
  jO C.P 67 [qr l,.v (str p)] (.tup [.v (.int .i64 (xM l p)),.v (.bool (yV l p))]):=by
 have hse:=qez l p hl hs
 refine qa Tryz.func67 rfl _ Tryz.ntmps67 (Nat.le_of_ble_eq_true rfl) _ Tryz.results67 0 rfl rfl ?_
 repeat' (first|refine qe ?_|(first|refine xsQ Tryz.func113 (hse ..) ?_)|((first|refine xsC ?_ ?_);all_goals (intro hc;have hp:=hc;try simp at hp;try (exfalso;omega)))|refine qp ?_ ?_)
 (exact j1 (rs:=[.tmp 4,.tmp 5]))
end Go.Proofs.YtiljlcgmcmjcoaaGreatDoor
