import Derived.Test.YtgcncinnlmjgdaaGreatDoorMz8
import Derived.RangeFuncNested
import Derived.RangeFuncBound
import Derived.RangeFuncCalls
import Derived.RangeFuncLeaves
import Derived.Shelf.Abstract
import Derived.Shelf.RegionOpen
import Derived.WalkKit
import Derived.OwnWalkIn
import Derived.TacticsInMore
import Derived.LoopNIn
import Derived.LoopIn
import Derived.Test.YtgcncinnlmjgdaaGreatDoorMz7
import Derived.Test.YtgcncinnlmjgdaaGreatDoorMz0
set_option linter.unusedSimpArgs false
set_option linter.unnecessarySimpa false
set_option maxHeartbeats 1000000
set_option maxRecDepth 10000
namespace Go.Proofs.YtgcncinnlmjgdaaGreatDoor
open Go.Ab Go.RowKit Go.Shelf
attribute [local go_sem] Oper.semAt_some
abbrev vh (s:qb):Value := .string ⟨s.toArray⟩
abbrev X4 (b:Nat):Value := .pointer (some ⟨b,0,none⟩)
theorem qcT (p:qb) (w:World):Calls Tryz.prog 269 #[vh p,vh wS,.int .i64 0] w fun e w' =>
  e = .returned (.func (.func 274) #[] #[X4 (w.heap.size + 1),X4 w.heap.size,X4 (w.heap.size + 2)]) ∧ w' = ((w.alloc (.cells #[vh p] 9)).alloc (.cells #[vh wS] 9)).alloc (.cells #[.int .i64 0] 3):=by
 go_enter Tryz.func269,Tryz.ntmps269
 go_wp2
 go_ret
 refine ⟨rfl,rfl⟩
theorem qbR (p:qb) (w:World):Calls Tryz.prog 263 #[vh p,vh wS] w fun e w' =>
  e = .returned (.func (.func 274) #[] #[X4 (w.heap.size + 1),X4 w.heap.size,X4 (w.heap.size + 2)]) ∧ w' = ((w.alloc (.cells #[vh p] 9)).alloc (.cells #[vh wS] 9)).alloc (.cells #[.int .i64 0] 3):=by
 go_enter Tryz.func263,Tryz.ntmps263
 go_wp2_with (go_at_call 269;refine (qcT _ _).mono ?_;rintro e w' ⟨rfl,rfl⟩)
 go_ret
 refine ⟨rfl,rfl⟩
theorem qaQ (s:qb) (c:UInt8) (w:World):Calls Tryz.prog 154 #[vh s,.int .u8 (c.toNat:Int)] w fun e w'=>e = .returned (.int .i64 (Lib.indexByte s c)) ∧ w' = w:=by
 go_enter Tryz.func154,Tryz.ntmps154
 go_wp2
 rw [run_callFunc_extern Tryz.func189 (by kernel_rfl) (by kernel_rfl) (by kernel_rfl) (e:=Extern.BytealgIndexByte.indexByte) (by kernel_rfl),Lib.run_indexByteString];simp only [Result.andThen];rw [Oper.upon_value]
 go_wp2
 go_ret
 refine ⟨?_,rfl⟩;simp
theorem qfN (s:qb) (w:World):Calls Tryz.prog 183 #[vh s,vh wS] w fun e w'=>e = .returned (.int .i64 (Lib.indexByte s 47)) ∧ w' = w:=by
 show Calls _ _ #[vh s,.string ⟨#[47]⟩] w _
 go_enter Tryz.func183,Tryz.ntmps183
 go_wp2_with (go_at_call 154;refine (qaQ s 47 _).mono ?_;rintro e w' ⟨rfl,rfl⟩)
 ·go_ret
  refine ⟨?_,rfl⟩
  have e:([47]:qb) = s:=by first|assumption|(simp_all;done)
  subst e;rfl
 ·go_ret
  exact ⟨rfl,rfl⟩
theorem qbq (s:qb) (w:World):Calls Tryz.prog 273 #[vh s,vh wS] w fun e w'=>e = .returned (.int .i64 (Lib.indexByte s 47)) ∧ w.grownBy w' none:=by
 go_enter Tryz.func273,Tryz.ntmps273
 go_wp2_with (go_at_call 183;refine (qfN _ _).mono ?_;rintro e w' ⟨rfl,rfl⟩)
 go_ret
 exact ⟨rfl,⟨rfl,rfl,rfl,Nat.le_refl _,fun _ _ _=>rfl⟩⟩
theorem qdO (s:qb):(Lib.indexByte s 47 = -1 ∧ (47:UInt8) ∉ s) ∨ ∃ a b,s = a ++ 47 :: b ∧ (47:UInt8) ∉ a ∧ Lib.indexByte s 47 = a.length:=by
 induction s with
 | nil=>exact .inl ⟨rfl,by simp⟩
 | cons c s ih =>
   by_cases hc:c = 47
   ·subst hc;exact .inr ⟨[],s,rfl,by simp,by simp [Lib.indexByte]⟩
   ·rcases ih with ⟨h1,h2⟩|⟨a,b,h1,h2,h3⟩
    ·exact .inl ⟨by simp [Lib.indexByte,hc,h1],by simp only [List.mem_cons,not_or];exact ⟨fun e=>hc e.symm,h2⟩⟩
    ·refine .inr ⟨c :: a,b,by simp [h1],by simp only [List.mem_cons,not_or];exact ⟨fun e=>hc e.symm,h2⟩,?_⟩;have:¬ Lib.indexByte s 47 = -1:=by omega
     simp [Lib.indexByte,hc,this,h3]
theorem yw {W:World} {b T:Nat} {v:Value} (h:W.heap[b]? = some (.cells #[v] T (0,0))):W.cell? ⟨b,0,none⟩ = some v ∧ W.frozen? ⟨b,0,none⟩ = false:=by simp [World.cell?,World.frozen?,h]
theorem kept {A B:World} {k:Nat} {o:Obj} (hg:A.grownBy B Option.none) (h:A.heap[k]? = some o):B.heap[k]? = some o:=(hg.block k (Array.getElem?_eq_some_iff.1 h).1 (by simp)).trans h
theorem _root_.Go.World.grownBy.weaken {A B:World} (h:A.grownBy B Option.none) (r:Option Nat):A.grownBy B r:=⟨h.os,h.tape,h.output,h.size,fun k hk _=>h.block k hk (by simp)⟩
theorem wrap64_in {x:Int} (h1:0 ≤ x) (h2:x ≤ 9223372036854775807):wrap64 x = x:=IntWalk.wrap64_in x ⟨by omega,by omega⟩
theorem YB (l:List UInt8) (a b:Nat):ByteArray.extract ⟨l.toArray⟩ a b = ⟨((l.take b).drop a).toArray⟩:=by
 have h:(ByteArray.extract ⟨l.toArray⟩ a b).data = ((l.take b).drop a).toArray:=by simp [List.drop_take]
 calc ByteArray.extract ⟨l.toArray⟩ a b = ⟨(ByteArray.extract ⟨l.toArray⟩ a b).data⟩:=rfl
  _ = _:=by rw [h]
theorem heap_set {W:World} {b T:Nat} {v:Value} (h:W.heap[b]? = some (.cells #[v] T (0,0))) (u:Value):(W.setCell ⟨b,0,none⟩ u).heap[b]? = some (.cells #[u] T (0,0)):=by
 obtain ⟨hlt,hb⟩:=Array.getElem?_eq_some_iff.1 h;show (W.heap.modify b _)[b]? = _;rw [Array.getElem?_eq_getElem (by rw [Array.size_modify];exact hlt),Array.getElem_modify_self,hb];rfl
theorem Q6 (W:World) {b k:Nat} (u:Value) (h:k ≠ b):(W.setCell ⟨b,0,none⟩ u).heap[k]? = W.heap[k]?:=Below.heap_setCell W ⟨b,0,none⟩ u k h
def qla (S:Nat) (w:World):Nat:=match w.cell? ⟨S,0,none⟩ with|some (.string s)=>s.size|_=>0
theorem qgJ (n:Nat) (hn:1 ≤ n) (p:qb) (hp:p.length ≤ 140737488355328) (w0:World) (S:Nat) (h0:w0.heap[S]? = some (.cells #[vh p] 9 (0,0))) (h1:w0.heap[S + 1]? = some (.cells #[vh wS] 9 (0,0))) (h2:w0.heap[S + 2]? = some (.cells #[.int .i64 0] 3 (0,0))) :
  qc6 Fence.wide n Tryz.prog 274 #[X4 (S + 1),X4 S,X4 (S + 2)] S (qk p) w0:=by
 intro l J Jx W hW hJ hJx hY hJ0;have hS:W.heap[S]? = some (.cells #[vh p] 9 (0,0)):=(hW S (by omega) (by omega)).trans h0;have hS1:W.heap[S + 1]? = some (.cells #[vh wS] 9 (0,0)):=(hW (S + 1) (by omega) (by omega)).trans h1;have hS2:W.heap[S + 2]? = some (.cells #[.int .i64 0] 3 (0,0)):=(hW (S + 2) (by omega) (by omega)).trans h2;have c1:=(yw hS1).1;have hsl:List.length wS = 1:=rfl;refine callsIn_of_wp Tryz.func274 rfl trivial ?_ rfl;simp only [Tryz.ntmps274,List.size_toArray,List.length_cons,List.length_nil,Nat.reduceAdd,Nat.reduceSub,Array.replicate_succ,Array.replicate_zero,List.push_toArray,List.append_toArray,List.cons_append,List.nil_append]
 gi_wp2
 gi_loopw [7] (fun _ wr => ∃ (pre:List qb) (rest:qb),qk p = pre ++ qk rest ∧ rest.length ≤ p.length ∧ wr.heap[S]? = some (.cells #[vh rest] 9 (0,0)) ∧ wr.heap[S + 1]? = some (.cells #[vh wS] 9 (0,0)) ∧ wr.heap[S + 2]? = some (.cells #[.int .i64 0] 3 (0,0)) ∧ J pre wr) (fun _ wr=>qla S wr)
 case atStart=>exact ⟨[],p,rfl,Nat.le_refl _,hS,hS1,hS2,hJ0⟩
 case round =>
  obtain ⟨pre,rest,hx,hlen,hb,hb1,hb2,hJs⟩:=hrel;have c0:=(yw hb).1;have c1:=(yw hb1).1;have c2:=(yw hb2).1
  rcases qdO rest with ⟨hm,hfree⟩|⟨a,b,rfl,hfa,hi⟩
  ·have hpre:pre ++ [rest] <+: qk p:=by rw [hx,zJ hfree];exact List.prefix_refl _
   gi_wp2_with (refine ⟨trivial,?_⟩;gi_at_call 273;refine (callsIn_wide.2 (qbq _ _)).mono ?_;rintro e w1 ⟨rfl,hg⟩;have hd0:=kept hg hb;have hd1:=kept hg hb1;have hd2:=kept hg hb2;have d0:=(yw hd0).1;have d1:=(yw hd1).1;have d2:=(yw hd2).1;obtain ⟨fn,tmps,assign,body,hy,hR⟩:=hY pre rest w1 (hJ _ _ _ hJs (hg.weaken _)) hpre)
   refine hR.mono ?_;rintro e W' (⟨rfl,hJ',hk⟩|⟨rfl,hJx'⟩)
   ·gi_wp2
    go_end0
    exact ⟨⟨_,rfl⟩,.inl (by rw [hx,zJ hfree];exact hJ')⟩
   ·gi_wp2
    go_end0
    exact ⟨⟨_,rfl⟩,.inr ⟨_,hpre,hJx'⟩⟩
  ·have hpre:pre ++ [a] <+: qk p:=by rw [hx,wY b hfa];exact ⟨qk b,by simp⟩
   have hw1:wrap64 (a.length:Int) = a.length:=wrap64_in (by omega) (by simp at hlen;omega);have hw2:wrap64 ((a.length:Int) + 1) = a.length + 1:=wrap64_in (by omega) (by simp at hlen;omega);have hs1:=YB (a ++ 47 :: b) 0 a.length
   have hs3:({ data:=List.toArray (a ++ 47 :: b) }:ByteArray).extract (a.length + 1) (a.length + (b.length + 1)) = ⟨b.toArray⟩:=by
    rw [YB,List.take_of_length_le (by simp),List.drop_append,List.drop_of_length_le (by omega),List.nil_append,show a.length + 1 - a.length = 1 from by omega];rfl
   have hs2:=YB (a ++ 47 :: b) (a.length + 1) (a ++ 47 :: b).length
   gi_wp2_with (refine ⟨trivial,?_⟩;gi_at_call 273;refine (callsIn_wide.2 (qbq _ _)).mono ?_;rintro e w1 ⟨rfl,hg⟩;have hd0:=kept hg hb;have hd1:=kept hg hb1;have hd2:=kept hg hb2;have d0:=(yw hd0).1;have d1:=(yw hd1).1;have d2:=(yw hd2).1;obtain ⟨fn,tmps,assign,body,hy,hR⟩:=hY pre a w1 (hJ _ _ _ hJs (hg.weaken _)) hpre)
   refine hR.mono ?_;rintro e W' (⟨rfl,hJ',hk⟩|⟨rfl,hJx'⟩)
   ·have he0:=(hk S (by omega) (by omega)).trans hd0;have he1:=(hk (S + 1) (by omega) (by omega)).trans hd1;have he2:=(hk (S + 2) (by omega) (by omega)).trans hd2;have e0:=(yw he0).1;have e1:=(yw he1).1;have e2:=(yw he2).1;have f0:=(yw he0).2
    gi_wp2
    go_roundw
    case rel=>exact ⟨pre ++ [a],b,by rw [hx,wY b hfa];simp,by simp at hlen;omega,heap_set he0 _,(Q6 W' _ (by omega)).trans he1,(Q6 W' _ (by omega)).trans he2,hJ _ _ _ hJ' (grownBy_setCell' W' S _)⟩
    case measure =>
     simp [qla,(yw (heap_set he0 (vh b))).1,c0,ByteArray.size];omega
   ·gi_wp2
    refine bodyPost_ret (results_none rfl _ _ _) rfl ?_;exact ⟨⟨_,rfl⟩,.inr ⟨_,hpre,hJx'⟩⟩
end Go.Proofs.YtgcncinnlmjgdaaGreatDoor
namespace Go.Proofs.YtgcncinnlmjgdaaGreatDoor
open Go.Ab Go.RowKit Go.Shelf
attribute [local go_sem] Oper.semAt_some
def kR (s:qb):List AV:=[.v (str s)]
abbrev mk (D:Nat):Deferred := { target := .collected D,args := #[] }
theorem qiB (s:qb) (w:World):Calls Tryz.prog 267 #[vh s,vh wS] w fun e w'=>e = .returned (.int .i64 (s.count 47:Nat)) ∧ w' = w:=by
 show Calls _ _ #[vh s,.string ⟨#[47]⟩] w _
 go_enter Tryz.func267,Tryz.ntmps267
 go_wp2
 rw [run_callFunc_extern Tryz.func272 (by kernel_rfl) (by kernel_rfl) (by kernel_rfl) (e:=Extern.BytealgCount.count) (by kernel_rfl),Lib.run_countString];simp only [Result.andThen];rw [Oper.upon_value]
 go_wp2
 go_ret
 refine ⟨?_,rfl⟩;simp [Lib.countByte];rfl
theorem qbn (s:qb) (w:World):Calls Tryz.prog 260 #[vh s] w fun e w'=>e = .returned (.bool (yD s)) ∧ w.grownBy w' none:=by
 have htg:=QS s
 have hg0:w.grownBy w none:=⟨rfl,rfl,rfl,Nat.le_refl _,fun _ _ _=>rfl⟩
 go_enter Tryz.func260,Tryz.ntmps260
 go_wp2_with (go_at_call 267;refine (qiB s _).mono ?_;rintro e w' ⟨rfl,rfl⟩)
 all_goals go_ret
 all_goals (refine ⟨?_,hg0⟩)
 ·show Ending.returned (Value.bool _) = _
  try rw [htg]
  congr 2;rw [Bool.eq_iff_iff];simp;omega
 ·show Ending.returned (Value.bool true) = _
  try rw [htg]
  congr 2
  have h6:6 ≤ s.count 47:=by first|omega|(simp_all;done)|(simp_all;omega)
  simp [h6]
theorem VR {F:Fence} {n:Nat} {P:Program} {fn:Func} {tmps:Array Value} {R:Ending → World → Prop} : ∀ (Ds:List Nat) (W:World),Ds.Nodup → (∀ D,D ∈ Ds → W.heap[D]? = some (.deferred (some []))) →
  (∀ W',W.heap.size = W'.heap.size → W'.os = W.os → W'.tape = W.tape → W'.output = W.output → (∀ k,k ∉ Ds → W'.heap[k]? = W.heap[k]?) → LeavesInM F n P fn tmps R [] .returning W') → LeavesInM F n P fn tmps R (Ds.map mk) .returning W
 | [],W,_,_,h=>h W rfl rfl rfl rfl fun _ _=>rfl
 | D :: Ds,W,hn,hd,h=>by
   obtain ⟨h1,h2⟩:=List.nodup_cons.1 hn;have hK:=hd D (by simp);refine ⟨by simp,.inl ⟨D,_,rfl,run_takeDeferred hK,VR Ds _ h2 (fun D' hD'=>(World.putObj_heap_other (by rintro rfl;exact h1 hD')).trans (hd D' (by simp [hD']))) fun W' a1 a2 a3 a4 a5=>?_⟩⟩;refine h W' (by rw [← a1];simp) a2 a3 a4 fun k hk=>?_
   simp only [List.mem_cons,not_or] at hk;exact (a5 k hk.2).trans (World.putObj_heap_other hk.1)
structure ChkW (w:World) (e:Int) (Ds:List Nat) (W:World):Prop where
 below:Below w.heap.size w W
 cell:W.heap[w.heap.size]? = some (.cells #[.int .i64 e] 29 (0,0))
 marks : ∀ D,D ∈ Ds → w.heap.size < D ∧ W.heap[D]? = some (.deferred (some []))
theorem ChkW.grown {w:World} {e:Int} {Ds:List Nat} {W W' : World} {row:Option Nat} (h:ChkW w e Ds W) (hg:W.grownBy W' row) (hr : ∀ r,row = some r → w.heap.size < r ∧ r ∉ Ds):ChkW w e Ds W':=by
 have hlt:=(Array.getElem?_eq_some_iff.1 h.cell).1;refine ⟨h.below.grown hg (by omega) (fun k e=>by have:=(hr k e).1;omega),(hg.block _ hlt (fun e=>by have:=(hr _ e.symm).1;omega)).trans h.cell,fun D hD=>⟨(h.marks D hD).1,?_⟩⟩;exact (hg.block D (Array.getElem?_eq_some_iff.1 (h.marks D hD).2).1 (fun e=>(hr _ e.symm).2 hD)).trans (h.marks D hD).2
theorem ChkW.lt {w:World} {e:Int} {Ds:List Nat} {W:World} (h:ChkW w e Ds W):w.heap.size < W.heap.size:=(Array.getElem?_eq_some_iff.1 h.cell).1
theorem ChkW.mlt {w:World} {e:Int} {Ds:List Nat} {W:World} (h:ChkW w e Ds W) : ∀ D,D ∈ Ds → D < W.heap.size:=fun D hD=>(Array.getElem?_eq_some_iff.1 (h.marks D hD).2).1
theorem ChkW.set {w:World} {e:Int} {Ds:List Nat} {W:World} (h:ChkW w e Ds W) (e' : Int):ChkW w e' Ds (W.setCell ⟨w.heap.size,0,Option.none⟩ (.int .i64 e')) :=
 ⟨h.below.setCell (Nat.le_refl _) _,heap_set h.cell _,fun D hD=>⟨(h.marks D hD).1,(Q6 W _ (by have:=(h.marks D hD).1;omega)).trans (h.marks D hD).2⟩⟩
theorem J1 {n:Nat} {tmps:Array Value} {w W:World} {e:Int} {Ds:List Nat} (h:ChkW w e Ds W) (hn:Ds.Nodup) (ht:tmps.getD 2 undef = .pointer (some ⟨w.heap.size,0,Option.none⟩)) :
  LeavesInM Fence.wide n Tryz.prog Tryz.f252 tmps (fun en w'=>en = .returned (.int .i64 e) ∧ w.grownBy w' Option.none) (Ds.map mk) .returning W:=by
 refine VR Ds W hn (fun D hD=>(h.marks D hD).2) fun W' a1 a2 a3 a4 a5=>?_
 have hc:W'.heap[w.heap.size]? = some (.cells #[.int .i64 e] 29 (0,0)):=(a5 _ (fun hm=>absurd (h.marks _ hm).1 (Nat.lt_irrefl _))).trans h.cell;have hcell:=(yw hc).1;refine ⟨.int .i64 e,?_,rfl,⟨a2.trans h.below.os,a3.trans h.below.tape,a4.trans h.below.output,by have:=h.below.size;omega,fun k hk _=>(a5 k (fun hm=>by have:=(h.marks k hm).1;omega)).trans (h.below.block k hk)⟩⟩;simp only [Array.getD_eq_getD_getElem?] at ht;simp [results,Tryz.results252,go_sem,ht,hcell]
theorem qd9 {w W X:World} {e e' : Int} {Ds:List Nat} {D:Nat} (hW:ChkW w e Ds W) (hnd:Ds.Nodup) (hX:ChkW w e' Ds X) (hK:X.heap[D]? = some (.deferred (some []))) (hD:W.heap.size ≤ D) :
  ChkW w e' (D :: Ds) X ∧ (D :: Ds).Nodup ∧ mk D :: Ds.map mk = (D :: Ds).map mk:=by
 have:=hW.lt;refine ⟨⟨hX.below,hX.cell,fun D' hD'=>?_⟩,List.nodup_cons.2 ⟨fun hm=>by have:=hW.mlt _ hm;omega,hnd⟩,rfl⟩;rcases List.mem_cons.1 hD' with rfl|h
 ·exact ⟨by omega,hK⟩
 ·exact hX.marks D' h
theorem qaT {p n:qb} (h:n ∈ qk p):n.length ≤ p.length:=by
 induction p generalizing n with
 | nil=>simp [qk] at h;subst h;simp
 | cons c s ih =>
   simp only [qk] at h;split at h
   ·rcases List.mem_cons.1 h with rfl|h
    ·simp
    ·have:=ih h;simp;omega
   ·split at h
    ·simp at h;subst h;simp
    ·rename_i m l hm;rcases List.mem_cons.1 h with rfl|h
     ·have:=ih (n:=m) (by rw [hm];simp);simp;omega
     ·have:=ih (n:=n) (by rw [hm];simp [h]);simp;omega
theorem YT {ps:List qb} {i:Nat} (h:i < ps.length):yl (ps.drop i) = if qA ps[i] = 0 then yl (ps.drop (i + 1)) else qA ps[i]:=by
 rw [List.drop_eq_getElem_cons h];rfl
theorem qbb (ps:List qb) (hps:ps.length ≤ 1000000) (hsz : ∀ p,p ∈ ps → p.length ≤ 140737488355328) (A:Option Addr) (cap:Nat) (w:World)
  (hA : ∀ i (h:i < ps.length), ∃ bb off,A = some ⟨bb,off,Option.none⟩ ∧ bb < w.heap.size ∧ w.cell? ⟨bb,off + i,Option.none⟩ = some (vh ps[i])) :
  Calls Tryz.prog 252 #[.slice A ps.length cap] w fun e w'=>e = .returned (.int .i64 (yl ps)) ∧ w.grownBy w' Option.none:=by
 refine (callsIn_wide (n:=10)).1 ?_;refine callsIn_of_wp_marks Tryz.func252 rfl trivial ?_ rfl;simp only [Tryz.ntmps252,List.size_toArray,List.length_cons,List.length_nil,Nat.reduceAdd,Nat.reduceSub,Array.replicate_succ,Array.replicate_zero,List.push_toArray,List.append_toArray,List.cons_append,List.nil_append]
 gi_wp2
 refine wpIn_loop (fun a W => ∃ (i:Nat) (Ds:List Nat) (u4 u5 u9 u10 u11 u12 u13 u14 u15 u16 u17 u18 u19 u20:Value),i ≤ ps.length ∧ yl ps = yl (ps.drop i) ∧ Ds.Nodup ∧ ChkW w 0 Ds W ∧
  a = { tmps := #[.slice A ps.length cap,undef,.pointer (some ⟨w.heap.size,0,Option.none⟩),undef,u4,u5,.slice A ps.length cap,.int .i64 ps.length,.int .i64 i,u9,u10,u11,u12,u13,u14,u15,u16,u17,u18,u19,u20],defers:=Ds.map mk })
  (fun a _=>ps.length - (intOf (a.tmps.getD 8 undef)).toNat) ⟨0,[],undef,undef,undef,undef,undef,undef,undef,undef,undef,undef,undef,undef,undef,undef,Nat.zero_le _,rfl,List.nodup_nil,?start,rfl⟩ ?round
 case start=>exact ⟨(Below.refl _ w).alloc (Nat.le_refl _) _,World.alloc_heap_new w _,nofun⟩
 case round =>
  rintro a W ⟨i,Ds,u4,u5,u9,u10,u11,u12,u13,u14,u15,u16,u17,u18,u19,u20,hi,herr,hnd,hW,rfl⟩;have hlt0:=hW.lt;have cE:=(yw hW.cell).1;have fE:=(yw hW.cell).2;by_cases hlt:i < ps.length
  ·obtain ⟨bb,off,hAA,hbb,hcell⟩:=hA i hlt;subst hAA;have hc:W.cell? ⟨bb,off + i,Option.none⟩ = some (vh ps[i]):=by rw [World.cell?_of_block (hW.below.block bb hbb)];exact hcell
   gi_wp2_with (refine ⟨trivial,?_⟩;gi_at_call 263;refine (callsIn_wide.2 (qbR _ _)).mono ?_;rintro e w' ⟨rfl,rfl⟩)
   have hst : ∀ e (X Y:World) row,ChkW w e Ds X → X.grownBy Y row → (∀ r,row = some r → W.heap.size ≤ r) → ChkW w e Ds Y:=fun e X Y row hX hg hr=>hX.grown hg fun r e=>by
    have h1:=hr r e;exact ⟨by omega,fun hm=>by have:=hW.mlt r hm;omega⟩
   have hpi:=hsz ps[i] (List.getElem_mem hlt);have hW3:ChkW w 0 Ds (((W.alloc (.cells #[vh ps[i]] 9)).alloc (.cells #[vh wS] 9)).alloc (.cells #[.int .i64 0] 3)):=hst 0 _ _ Option.none hW ⟨rfl,rfl,rfl,by simp;omega,fun k hk _=>((Below.heap_alloc _ _ k (by simp;omega)).trans (Below.heap_alloc _ _ k (by simp;omega))).trans (Below.heap_alloc _ _ k hk)⟩ nofun
   refine Xx (F:=Fence.wide) rfl (by decide) (gf:=274) (lb := #[X4 (W.heap.size + 1),X4 W.heap.size,X4 (W.heap.size + 2)]) rfl trivial (enters_of Tryz.func274 (by kernel_rfl) rfl) (S:=W.heap.size) (names:=qk ps[i]) (by simp) (qgJ _ (by decide) ps[i] hpi _ _ ?s0 ?s1 ?s2) rfl
    (fun pre X=>(∀ x,x ∈ pre → qj x = true) ∧ ChkW w 0 Ds X) (fun pre X=>(∃ x,x ∈ pre ∧ qj x = false) ∧ ChkW w 1 Ds X)
    (fun s X Y row h hg hr=>⟨h.1,hst 0 X Y row h.2 hg hr⟩) (fun s X Y row h hg hr=>⟨h.1,hst 1 X Y row h.2 hg hr⟩) ⟨nofun,hW3⟩
    (fun x => { tmps := #[.slice (some ⟨bb,off,Option.none⟩) ps.length cap,undef,.pointer (some ⟨w.heap.size,0,Option.none⟩),undef,vh ps[i],vh x,.slice (some ⟨bb,off,Option.none⟩) ps.length cap,.int .i64 ps.length,.int .i64 i,.bool true,.pointer (some ⟨bb,off + i,Option.none⟩),vh ps[i],vh ps[i],.func (.func 274) #[] #[X4 (W.heap.size + 1),X4 W.heap.size,X4 (W.heap.size + 2)],vh x,u15,u16,u17,u18,u19,u20],defers:=[] }) ?assign ?body ?done ?stop
   case s0=>exact (Below.heap_alloc _ _ _ (by simp;omega)).trans ((Below.heap_alloc _ _ _ (by simp)).trans (World.alloc_heap_new W _))
   case s1=>exact (Below.heap_alloc _ _ _ (by simp)).trans (by have:=World.alloc_heap_new (W.alloc (.cells #[vh ps[i]] 9)) (.cells #[vh wS] 9);rwa [World.size_alloc] at this)
   case s2=>exact (by have:=World.alloc_heap_new ((W.alloc (.cells #[vh ps[i]] 9)).alloc (.cells #[vh wS] 9)) (.cells #[.int .i64 0] 3);rwa [World.size_alloc,World.size_alloc] at this)
   case assign =>
    intro l x X K hK
    gi_wp2
    exact hK
   case body =>
    rintro l pre x X ⟨hpre,hX⟩ hpx hsX;have hxn:x ∈ qk ps[i]:=hpx.subset (by simp);have hxl:x.length ≤ 9223372036854775807:=by have:=qaT hxn;omega
    have cX:=(yw hX.cell).1;have fX:=(yw hX.cell).2;cases hb:qj x
    ·gi_wp2_with (refine ⟨trivial,?_⟩;gi_at_call 49;refine (CallsIn.inRound l (callsIn_wide.2 (JZ x _ hxl))).mono ?_;rintro e w1 ⟨rfl,rfl⟩)
     exact ⟨⟨by simp [World.setCell],fun k hk hle=>Q6 X _ (by omega)⟩,⟨x,by simp,hb⟩,hX.set 1⟩
    ·gi_wp2_with (refine ⟨trivial,?_⟩;gi_at_call 49;refine (CallsIn.inRound l (callsIn_wide.2 (JZ x _ hxl))).mono ?_;rintro e w1 ⟨rfl,rfl⟩)
     exact ⟨⟨Nat.le_refl _,fun _ _ _=>rfl⟩,fun y hy=>(List.mem_append.1 hy).elim (hpre y) (fun e=>by rw [List.mem_singleton.1 e];exact hb),hX⟩
   case done =>
    rintro X ⟨hpre,hX⟩ hK;obtain ⟨hX',hnd', -⟩:=qd9 hW hnd hX (D:=W.heap.size + 3) (by simpa using hK) (by omega);have hall:(qk ps[i]).all qj = true:=List.all_eq_true.2 hpre;cases hgt:yD ps[i]
    ·have hpe:qA ps[i] = 0:=by simp [qA,hall,hgt]
     gi_wp2_with (refine ⟨trivial,?_⟩;gi_at_call 260;refine (callsIn_wide.2 (qbn _ _)).mono ?_;rintro e w1 ⟨rfl,hg⟩;have hY:=hX'.grown hg nofun)
     refine ⟨⟨i + 1,(W.heap.size + 3) :: Ds,_,_,_,_,_,_,_,_,_,_,_,_,_,_,by omega,by rw [herr,YT hlt,hpe];rfl,hnd',hY,rfl⟩,?_⟩;simp [intOf];omega
    ·have hpe:qA ps[i] = 2:=by simp [qA,hall,hgt]
     have hz:yl ps = 2:=by rw [herr,YT hlt,hpe];rfl
     gi_wp2_with (refine ⟨trivial,?_⟩;gi_at_call 260;refine (callsIn_wide.2 (qbn _ _)).mono ?_;rintro e w1 ⟨rfl,hg⟩;have hY:=hX'.grown hg nofun;have cY:=(yw hY.cell).1;have fY:=(yw hY.cell).2)
     rw [hz];exact J1 (hY.set 2) hnd' rfl
   case stop =>
    rintro pre X hpre ⟨⟨x,hx,hb⟩,hX⟩ hK;obtain ⟨hX',hnd', -⟩:=qd9 hW hnd hX (D:=W.heap.size + 3) (by simpa using hK) (by omega)
    have hall:¬ (qk ps[i]).all qj = true:=fun h=>by
     have:=List.all_eq_true.1 h x (hpre.subset hx);rw [hb] at this;cases this
    have hpe:qA ps[i] = 1:=by simp only [qA,hall];rfl
    have hz:yl ps = 1:=by rw [herr,YT hlt,hpe];rfl
    gi_wp2
    rw [hz];simp only [World.size_alloc];exact J1 hX' hnd' rfl
  ·have hz:yl ps = 0:=by rw [herr,List.drop_of_length_le (by omega)];rfl
   gi_wp2
   rw [hz];exact J1 (hW.set 0) hnd rfl
theorem qgY (ps:List qb) (hps:ps.length ≤ 1000000) (hsz : ∀ p,p ∈ ps → p.length ≤ 140737488355328):jN C.P 252 [.sl false (ps.map kR)] (.v (.int .i64 (yl ps))):=by
 refine qdr rfl fun F ρ vs w hag hl hm=>?_
 obtain ⟨v,rfl⟩ : ∃ v,vs = [v]:=by
  match vs,hl with
  | [v],_=>exact ⟨v,rfl⟩
 have h1:=hm 0 v _ rfl rfl
 rcases h1.sl_inv with ⟨h0,ad,cap,hv,_⟩|⟨b,o,cap,c,e',fr,kk,hb,_,_,hsz',hkk,hR,hv⟩
 ·have hnil:ps = []:=List.map_eq_nil_iff.1 h0;subst hnil;rw [hv];exact qbb [] hps hsz ad cap w (fun i h=>absurd h (Nat.not_lt_zero _))
 ·rw [hv];have hk1 : ∀ i,i < ps.length → kk = 1:=fun i hi=>(hkk _ (List.getElem_mem (l:=ps.map kR) (n:=i) (by simpa using hi))).symm.trans (by simp [kR])
  have hbw:=hag b _ hb;have:=qbb ps hps hsz (some ⟨b,o,Option.none⟩) cap w (fun i hi=>⟨b,o,rfl,(Array.getElem?_eq_some_iff.1 hbw).1,?_⟩)
  ·rw [List.length_map];exact this
  ·have hk:=hk1 i hi;subst hk;have hlt:o + i < c.size:=by simp at hsz';omega
   have hcv:c[o + i]? = some c[o + i]:=Array.getElem?_eq_getElem hlt;have hrow:(ps.map kR)[i]? = some (kR ps[i]):=by simp [hi]
   have hMv:=hR i 0 (kR ps[i]) (.v (str ps[i])) c[o + i] hrow rfl (by simpa using hcv);have:=hMv.v_inv.1;simp [World.cell?,hbw,hcv,this,str]
end Go.Proofs.YtgcncinnlmjgdaaGreatDoor
namespace Go.Proofs.YtgcncinnlmjgdaaGreatDoor
open Go.Ab Go.RowKit
attribute [local irreducible] Awp j9 jr ye Red qz Go.Ab.Fin qf Rz wz jF jU ResOk yA j1 xR qX
theorem qmo (s:qb) (c:UInt8) (hs:s.length ≤ 9223372036854775807):jN C.P 268 [.v (str s),.v (.int .u8 (c.toNat:Int))] (.v (.int .i64 (xN c s))):=by
 refine qJ 0 ?_
 repeat' (first|refine qg ?_|fail|(refine xsS ?_ ?_;all_goals first|exact False.elim|intro hp hc)|refine xsA ?_ ?_)
 refine Zq (ts:=[(0,.v (str s)),(1,.v (.int .u8 (c.toNat:Int))),(5,.v (.int .i64 ((s.length:Int) - 1 - ((0:Nat):Int))))]) ?_
 all_goals try (apply qb2;omega)
 refine qB (fun n σ => ∃ i:Nat,i ≤ s.length ∧ n = s.length - i ∧ (c ∉ s.drop (s.length - i)) ∧ σ = ⟨[(0,.v (str s)),(1,.v (.int .u8 (c.toNat:Int))),(5,.v (.int .i64 ((s.length:Int) - 1 - (i:Int))))],[],C.nh⟩) s.length ⟨0,Nat.zero_le _,rfl,(by simp),rfl⟩ ?_;rintro n σ ⟨i,hi,rfl,hsofar,rfl⟩;by_cases hlt:i < s.length
 ·have hx:(s.length:Int) - 1 - (i:Int) = ((s.length - 1 - i:Nat):Int):=by omega
  have hk:s.length - 1 - i < s.length:=by omega
  have hr:s[s.length - 1 - i]? = some s[s.length - 1 - i]:=List.getElem?_eq_getElem hk;rw [hx]
  repeat' (first|refine qg ?_|fail|(refine xsS ?_ ?_;all_goals first|exact False.elim|intro hp hc)|refine xsA ?_ ?_)
  all_goals try (exfalso;omega)
  ·apply qI;rfl;have hc:s[s.length - 1 - i] = c:=UInt8.toNat.inj (by omega);exact (qfV hk hc (by rw [show s.length - 1 - i + 1 = s.length - i from by omega];exact hsofar)).symm
  ·have hc:¬ s[s.length - 1 - i] = c:=fun e=>by subst e;omega
   have hnext:c ∉ s.drop (s.length - (i + 1)):=by
    rw [show s.length - (i + 1) = s.length - 1 - i from by omega,List.drop_eq_getElem_cons hk,show s.length - 1 - i + 1 = s.length - i from by omega];simp only [List.mem_cons,not_or];exact ⟨fun e=>hc e.symm,hsofar⟩
   refine ⟨s.length - (i + 1),_,by omega,yC (ts:=[(0,.v (str s)),(1,.v (.int .u8 (c.toNat:Int))),(5,.v (.int .i64 ((s.length:Int) - 1 - ((i + 1:Nat):Int))))]) ?_,i + 1,by omega,rfl,hnext,rfl⟩;((repeat (first|exact qx|refine jz ?_|refine xy ?_ ?_));all_goals (apply qb2;omega))
 obtain rfl:i = s.length:=by omega
 rw [show (s.length:Int) - 1 - (s.length:Int) = -1 from by omega]
 repeat' (first|refine qg ?_|fail|(refine xsS ?_ ?_;all_goals first|exact False.elim|intro hp hc)|refine xsA ?_ ?_)
 all_goals try (exfalso;omega)
 apply qI;rfl;have:c ∉ s:=by simpa using hsofar
 exact (kj this).symm
theorem qn2 (s:qb) (c:UInt8) (hs:s.length ≤ 9223372036854775807):jN C.P 262 [.v (str s),.v (.int .u8 (c.toNat:Int))] (.v (.int .i64 (xN c s))):=by
 refine qJ 0 ?_
 repeat' (first|refine qg ?_|(first|refine jT (qmo s c hs ..) ?_)|(refine xsS ?_ ?_;all_goals first|exact False.elim|intro hp hc)|refine xsA ?_ ?_)
 apply qI;rfl;rfl
theorem qmr (s:qb) (hs:s.length ≤ 9223372036854775800):jN C.P 251 [.v (str s)] (.tup [.v (str (qM s)),.v (str (J0 s))]):=by
 have hl:=qn2 s 47 (by omega);have hbd:=qfU 47 s;have hpd:qM s = s.take (xN 47 s).toNat:=rfl;have hld:J0 s = s.drop (xN 47 s + 1).toNat:=rfl;generalize xN 47 s = k at hl hbd hpd hld;refine qJ 0 ?_
 repeat' (first|refine qg ?_|(first|refine jT (hl ..) ?_|(apply qa;apply qmH;(case hx=>rfl);(case hy=>rfl);(case hN=>exact nle rfl))|(apply qa;apply kb (a:=0) (b:=k.toNat);(case hx=>rfl);(case hT=>rfl);(case he=>rfl);(case ha=>rfl);(case hb=>exact ⟨_,rfl⟩);(case hab=>exact K6);(case hbl=>exact K6);(case hN=>exact nle rfl))|(apply qa;apply kb (a:=(k + 1).toNat) (b:=s.length);(case hx=>rfl);(case hT=>rfl);(case he=>rfl);(case ha=>exact qqd);(case hb=>rfl);(case hab=>exact K6);(case hbl=>exact K6);(case hN=>exact nle rfl)))|(refine xsS ?_ ?_;all_goals first|exact False.elim|intro hp hc)|refine xsA ?_ ?_)
 all_goals try (exfalso;omega)
 (exact Jd (rs:=[.tmp 2,.tmp 3]) (hz:=by (repeat' (first|exact jX|apply qH|exact ju rfl|exact zP|exact Kc|apply vn|apply kP|apply vo|apply kN|apply vR|apply kO|refine Kb ?_|apply JD));all_goals (first|exact hpd.symm|(rw [hld,List.take_length]))))
theorem qer (q s:qb):q.isPrefixOf s = (decide (q.length ≤ s.length) && decide (s.take q.length = q)):=by
 rw [Bool.eq_iff_iff,List.isPrefixOf_iff_prefix,Bool.and_eq_true,decide_eq_true_iff,decide_eq_true_iff,List.prefix_iff_eq_take];constructor
 ·intro h;have h2:=congrArg List.length h;rw [List.length_take] at h2;exact ⟨by omega,h.symm⟩
 ·rintro ⟨_,h⟩;exact h.symm
theorem qic (s q:qb):jN C.P 264 [.v (str s),.v (str q)] (.v (.bool (q.isPrefixOf s))):=by
 have hpt:=qer q s;refine qJ 0 ?_
 repeat' (first|refine qg ?_|(first|(apply qa;apply kb (a:=0) (b:=q.length);(case hx=>rfl);(case hT=>rfl);(case he=>rfl);(case ha=>rfl);(case hb=>exact ⟨_,rfl⟩);(case hab=>exact K6);(case hbl=>exact K6);(case hN=>exact nle rfl)))|(refine xsS ?_ ?_;all_goals first|exact False.elim|intro hp hc)|refine xsA ?_ ?_)
 all_goals try (exfalso;omega)
 ·apply qR;rfl;have:q.length ≤ s.length:=by omega
  rw [hpt];simp [this]
 ·apply qR;rfl;have:¬ q.length ≤ s.length:=by omega
  rw [hpt];simp [this]
theorem qjT (s q:qb):jN C.P 255 [.v (str s),.v (str q)] (.v (.bool (q.isPrefixOf s))):=by
 refine qJ 0 ?_
 repeat' (first|refine qg ?_|(first|refine jT (qic s q ..) ?_)|(refine xsS ?_ ?_;all_goals first|exact False.elim|intro hp hc)|refine xsA ?_ ?_)
 apply qR;rfl;rfl
theorem qh9 (p q:qb) (hq:q.length ≤ 140737488355328):jN C.P 242 [.v (str p),.v (str q)] (.v (.bool (inB p q))):=by
 have hpr:=qjT p (q ++ [47]);refine qJ 0 ?_
 repeat' (first|refine qg ?_|(first|refine jT (hpr ..) ?_)|(refine xsS ?_ ?_;all_goals first|exact False.elim|intro hp hc)|refine xsA ?_ ?_)
 all_goals (apply qR;rfl;simp_all [inB])
theorem qcE (p:qb):yl [p] = qA p:=by
 simp only [yl];split<;>simp_all
theorem qjI (p:qb) (hp:p.length ≤ 140737488355328):jN C.P 252 [.sl false [[.v (str p)]]] (.v (.int .i64 (qA p))):=by
 have:=qgY [p] (by simp) (by simpa using hp);rw [qcE] at this;exact this
theorem Wg (p:qb) (hp:p.length ≤ 140737488355328):jN C.P 240 [.v (str p)] (.v (.int .i64 (qA p))):=by
 have hch:=qjI p hp;refine qJ 0 ?_
 repeat' (first|refine qg ?_|(first|(refine jd ?_)|refine yS (hch ..) ?_)|(refine xsS ?_ ?_;all_goals first|exact False.elim|intro hp hc)|refine xsA ?_ ?_)
 apply qI;rfl;rfl
def qpy (e:Int) (s:qb):qb:=if e = 0 then s else []
def vD (p f t:qb):Int:=if yl [p,f,t] = 0 then (if inB p f then (if yD (t ++ p.drop f.length) then 2 else 0) else 5) else yl [p,f,t]
theorem qmQ {p f:qb} (h:inB p f = true):f.length ≤ p.length:=by
 simp only [inB,Bool.or_eq_true,decide_eq_true_eq,List.isPrefixOf_iff_prefix] at h;rcases h with rfl|h
 ·exact Nat.le_refl _
 ·have:=h.length_le;simp at this;omega
theorem qg2 (p f t:qb) (hp:p.length ≤ 140737488355328) (hf:f.length ≤ 140737488355328) (ht:t.length ≤ 140737488355328):jN C.P 247 [.v (str p),.v (str f),.v (str t)] (.tup [.v (str (qpy (vD p f t) (t ++ p.drop f.length))),.v (.int .i64 (vD p f t))]):=by
 have hch:jN C.P 252 [.sl false [[.v (str p)],[.v (str f)],[.v (str t)]]] (.v (.int .i64 (yl [p,f,t]))):=qgY [p,f,t] (by simp) (by simpa using ⟨hp,hf,ht⟩);have hi:=qh9 p f hf;have hg:=qmk (t ++ p.drop f.length);have hln := @qmQ p f;have htk:p.take p.length = p:=List.take_length
 cases hb:inB p f with
 | false =>
   rw [hb] at hi;refine qJ 0 ?_
   repeat' (first|refine qg ?_|(first|(refine jd ?_)|refine yS (hch ..) ?_|refine jT (hi ..) ?_)|(refine xsS ?_ ?_;all_goals first|exact False.elim|intro hp hc)|refine xsA ?_ ?_)
   all_goals ((exact Jd (rs:=[.tmp 6,.tmp 7]) (hz:=qpR)))
 | true =>
   rw [hb] at hi;have hfl:=hln hb;have hdl:(p.drop f.length).length ≤ p.length:=by simp
   refine qJ 0 ?_
   repeat' (first|refine qg ?_|(first|(refine jd ?_)|refine yS (hch ..) ?_|refine jT (hi ..) ?_|(apply qa;apply kb (a:=f.length) (b:=p.length);(case hx=>rfl);(case hT=>rfl);(case he=>rfl);(case ha=>exact ⟨_,rfl⟩);(case hb=>rfl);(case hab=>exact K6);(case hbl=>exact K6);(case hN=>exact nle rfl))|(apply qcZ Tryz.func260 rfl rfl;intro hIsFn;refine qm5 hIsFn ((htk.symm ▸ hg) ..) ?_;skip))|(refine xsS ?_ ?_;all_goals first|exact False.elim|intro hp hc)|refine xsA ?_ ?_)
   all_goals ((exact Jd (rs:=[.tmp 6,.tmp 7]) (hz:=qpR)))
def qpn (p:qb) (i:Nat):Nat:=i - (J0 (p.take i)).length
def nsL (p:qb) (i:Nat):List qb:=(qk (p.take i)).dropLast
@[simp] theorem qpu (p:qb):nsL p 0 = []:=rfl
@[simp] theorem qoh (p:qb):qpn p 0 = 0:=rfl
@[simp] theorem qnL (s:qb):cellsOf (AV.v (str s)) = [AV.v (str s)]:=rfl
theorem qmm (s:qb):jN C.P 165 [.v (str s)] (.v (.bool false)):=by
 refine qJ 0 ?_
 repeat' (first|refine qg ?_|fail|(refine xsS ?_ ?_;all_goals first|exact False.elim|intro hp hc)|refine xsA ?_ ?_)
 all_goals (apply qR;rfl;simp)
theorem Zr (a b:qb):jN C.P 138 [.v (str a),.v (str b)] (.v (.int .i64 (vp a b))):=by
 refine qJ 0 ?_
 repeat' (first|refine qg ?_|(first|refine jT (qmm ..) ?_)|(refine xsS ?_ ?_;all_goals first|exact False.elim|intro hp hc)|refine xsA ?_ ?_)
 all_goals (apply qI;rfl;simp_all [vp])
theorem qdl (n:Int):jN C.P 194 [.v (.int .i64 n)] (.v (.bool (wN n))):=by
 refine qJ 0 ?_
 repeat' (first|refine qg ?_|fail|(refine xsS ?_ ?_;all_goals first|exact False.elim|intro hp hc)|refine xsA ?_ ?_)
 all_goals (apply qR;rfl;simp_all [wN];try (intro _;omega))
theorem qbU (e:Ent) (he:e.small):jN C.P 238 [.agg e.row] (.v (.int .i64 (xA e))):=by
 have h1:=he.1;have h2:=he.2;have hp:=Wg e.path (by omega);have hv:=qdl e.ver
 have hE:xA e = if qA e.path = 0 then (if e.fold = true ∧ ¬ e.text = [] then 1 else if 300 < e.text.length then 2 else if wN e.ver = true then 0 else 3) else qA e.path:=rfl
 generalize xA e = E at *;generalize wN e.ver = V at *;generalize qA e.path = F at *;refine qJ 0 ?_
 repeat' (first|refine qg ?_|(first|refine jT (hp ..) ?_|refine jT (hv ..) ?_)|(refine xsS ?_ ?_;all_goals first|exact False.elim|intro hp hc)|refine xsA ?_ ?_)
 all_goals try (exfalso;omega)
 all_goals (apply qI;rfl;rw [hE];simp_all;try omega)
theorem qjH (e:Ent) (p:qb):jN C.P 254 [.agg e.row,.v (str p)] (.v (.int .i64 (vp e.path p))):=by
 refine qJ 0 ?_
 repeat' (first|refine qg ?_|(first|refine jT (Zr ..) ?_)|(refine xsS ?_ ?_;all_goals first|exact False.elim|intro hp hc)|refine xsA ?_ ?_)
 all_goals (apply qI;rfl;rfl)
theorem qii (l:List Ent) (p:qb) (hl:l.length ≤ 1000000000) (hs:ql yq l = true) :
  jN C.P 253 [qU l,.v (str p),.clo (.func 254) [] []] (.tup [.v (.int .i64 (x7 l p)),.v (.bool (vB l p))]):=by
 refine qJ 0 ?_
 repeat' (first|refine qg ?_|fail|(refine xsS ?_ ?_;all_goals first|exact False.elim|intro hp hc)|refine xsA ?_ ?_)
 refine Zq (ts:=[(0,qU l),(1,.v (str p)),(2,.clo (.func 254) [] []),(8,.v (.int .i64 l.length)),(9,.v (.int .i64 ((0:Nat):Int))),(10,.v (.int .i64 l.length))]) ?_
 all_goals try (rw [List.length_map];done)
 refine qB (fun n σ => ∃ lo hi:Nat,lo ≤ hi ∧ hi ≤ l.length ∧ n = hi - lo ∧ (∀ (k:Nat) (h:k < l.length),k < lo → Op.bytesLess l[k].path p = true) ∧ (∀ (k:Nat) (h:k < l.length),hi ≤ k → Op.bytesLess l[k].path p = false) ∧ σ = ⟨[(0,qU l),(1,.v (str p)),(2,.clo (.func 254) [] []),(8,.v (.int .i64 l.length)),(9,.v (.int .i64 ((lo:Nat):Int))),(10,.v (.int .i64 ((hi:Nat):Int)))],[],C.nh⟩) l.length ⟨0,l.length,by omega,Nat.le_refl _,rfl,fun _ _ h=>absurd h (by omega),fun _ _ h=>absurd h (by omega),rfl⟩ ?_;rintro n σ ⟨lo,hi,hle,hhi,rfl,h1,h2,rfl⟩;by_cases hlt:lo < hi
 ·obtain ⟨m,hm⟩ : ∃ m:Nat,m = (lo + hi) / 2:=⟨_,rfl⟩
  have hmi:((lo:Int) + (hi:Int)) / 2 = (m:Int):=by omega
  have hml:m < l.length:=by omega
  have hr:=qK (f:=Ent.row) hml;have hr2:(l.map Ent.row)[(((lo:Int) + (hi:Int)) / 2).toNat]? = some l[m].row:=by rw [hmi];exact hr
  repeat' (first|refine qg ?_|(first|(apply qa;first|(apply ZC;rfl;rfl;rfl;rfl;rfl;omega;omega;exact nle rfl)|(apply ZB;rfl;rfl;rfl;rfl;rfl;omega;omega;exact nle rfl))|(apply qa;apply qch;(case hx=>rfl);(case hy=>rfl);(case hk=>decide);(case hN=>exact nle rfl))|(refine kV Tryz.func254 (qjH ..) ?_))|(refine xsS ?_ ?_;all_goals first|exact False.elim|intro hp hc)|refine xsA ?_ ?_)
  all_goals try (exfalso;omega)
  ·have hmg:Op.bytesLess l[m].path p = true:=(kQ _ _).1 hp;refine ⟨hi - (m + 1),_,by omega,yC (ts:=[(0,qU l),(1,.v (str p)),(2,.clo (.func 254) [] []),(8,.v (.int .i64 l.length)),(9,.v (.int .i64 ((m + 1:Nat):Int))),(10,.v (.int .i64 ((hi:Nat):Int)))]) ?_,m + 1,hi,by omega,hhi,rfl,fun k h hk=>?_,h2,rfl⟩
   · (repeat (first|exact qx|refine jz ?_|refine xy ?_ ?_))
     all_goals (rw [hmi];rfl)
   ·by_cases e:k = m
    ·subst e;exact hmg
    ·exact vf (zx hs k m h hml (by omega)) hmg
  ·have hmg:Op.bytesLess l[m].path p = false:=(by
    cases h:Op.bytesLess l[m].path p
    ·rfl
    ·have:=(kQ _ _).2 h;omega)
   refine ⟨m - lo,_,by omega,yC (ts:=[(0,qU l),(1,.v (str p)),(2,.clo (.func 254) [] []),(8,.v (.int .i64 l.length)),(9,.v (.int .i64 ((lo:Nat):Int))),(10,.v (.int .i64 ((m:Nat):Int)))]) ?_,lo,m,by omega,by omega,rfl,h1,fun k h hk=>?_,rfl⟩
   · (repeat (first|exact qx|refine jz ?_|refine xy ?_ ?_))
     all_goals (rw [hmi])
   ·by_cases e:k = m
    ·subst e;exact hmg
    ·cases hkg:Op.bytesLess l[k].path p
     ·rfl
     ·rw [vf (zx hs m k hml h (by omega)) hkg] at hmg;cases hmg
 obtain rfl:lo = hi:=by omega
 have hpos:x7 l p = lo:=qcF hhi h1 (fun h=>h2 lo h (by omega));by_cases hin:lo < l.length
 ·have hr:=qK (f:=Ent.row) hin
  have hhit:vB l p = decide (vp l[lo].path p = 0):=by
   rw [qdV hs,hpos,List.getElem?_eq_getElem hin]
  repeat' (first|refine qg ?_|(first|(refine kV Tryz.func254 (qjH ..) ?_))|(refine xsS ?_ ?_;all_goals first|exact False.elim|intro hp hc)|refine xsA ?_ ?_)
  all_goals try (exfalso;omega)
  rw [hpos,hhit]
  (exact kw (rs:=[.tmp 6,.tmp 7]))
 ·have hhit:vB l p = false:=by
   rw [qdV hs,hpos,List.getElem?_eq_none (by omega)]
  repeat' (first|refine qg ?_|(first|(refine kV Tryz.func254 (qjH ..) ?_))|(refine xsS ?_ ?_;all_goals first|exact False.elim|intro hp hc)|refine xsA ?_ ?_)
  all_goals try (exfalso;omega)
  rw [hpos,hhit]
  (exact kw (rs:=[.tmp 6,.tmp 7]))
theorem ql9 (l:List Ent) (p:qb) (hl:l.length ≤ 1000000000) (hs:ql yq l = true) :
  jN C.P 241 [qU l,.v (str p)] (.tup [.v (.int .i64 (x7 l p)),.v (.bool (vB l p))]):=by
 have hse:=qii l p hl hs;refine qJ 0 ?_;exact Yp
def QN (l:List Ent) (p:qb):Ent:=if qM p = [] then ⟨[],true,[],0⟩ else match l.find? (atP (qM p)) with|some x=>x|none=>⟨[],false,[],0⟩
def YS (l:List Ent) (p:qb):Bool:=decide (qM p = []) || vB l (qM p)
theorem qac (l:List Ent) (p:qb):yX l (qM p) = if YS l p = true then (if (QN l p).fold = true then 0 else 4) else 5:=by
 unfold yX YS QN
 by_cases h:qM p = []
 ·simp [h]
 ·cases hh:vB l (qM p) with
  | true =>
    obtain ⟨x,hx,hk⟩:=List.any_eq_true.1 hh
    cases hf:l.find? (atP (qM p)) with
    | none=>rw [List.find?_eq_none] at hf;exact absurd hk (hf x hx)
    | some y=>simp [h]
  | false=>simp [h,(Xc hh).1]
theorem qa3 (l:List Ent) (p:qb) (hl:l.length ≤ 1000000000) (hs:ql yq l = true) (hp:p.length ≤ 140737488355328) :
  jN C.P 239 [qU l,.v (str p)] (.tup [.agg (QN l p).row,.v (.bool (YS l p))]):=by
 have hsp:=qmr p (by omega);have hat:=ql9 l (qM p) hl hs
 by_cases h:qM p = []
 ·have e1:QN l p = ⟨[],true,[],0⟩:=by simp [QN,h]
  have e2:YS l p = true:=by simp [YS,h]
  rw [h] at hsp hat;rw [e1,e2];refine qJ 0 ?_;exact Yp
 ·cases hh:vB l (qM p) with
  | true =>
    obtain ⟨hk,hpe,hfi, -⟩:=qcq hs hh;have e1:QN l p = l[x7 l (qM p)]:=by simp [QN,h,hfi]
    have e2:YS l p = true:=by simp [YS,hh]
    rw [hh] at hat;rw [e1,e2];generalize x7 l (qM p) = k at *;have hr:=qK (f:=Ent.row) hk;refine qJ 0 ?_;exact Yp
  | false =>
    have e1:QN l p = ⟨[],false,[],0⟩:=by simp [QN,h,(Xc hh).1]
    have e2:YS l p = false:=by simp [YS,hh,h]
    rw [hh] at hat;rw [e1,e2];refine qJ 0 ?_;exact Yp
theorem qm0 (a b:Ent):(Op.bytesLess b.path a.path || decide (b.path = a.path)) = !yq a b:=by
 unfold yq
 rcases JQ a.path b.path with ⟨h1,h2,h3⟩|⟨h1,h2,h3⟩|⟨h1,h2,h3⟩
 ·have h4:¬ b.path = a.path:=fun e=>h3 e.symm
  simp [h1,h2,h4]
 ·simp [h1,zp]
 ·simp [h1,h2]
theorem qeU {t:List Ent} (h60:¬ 60 < t.length) {k:Nat} (hk:k < t.length) (hs : ∀ g,g ∈ t.take k → xA g = 0) (h0:xA t[k] ≠ 0):xA t[k] = jv t:=by
 have h1:=kY hk hs h0;have hz:¬ jp xA t = 0:=by rw [h1];exact h0
 simp only [jv,h60,hz,if_false];rw [h1]
theorem qda (l:List Ent) (hl:EBig l):jN C.P 221 [qU l] (.v (.int .i64 (jv l))):=by
 have hll:=hl.len;refine qJ 0 ?_
 repeat' (first|refine qg ?_|fail|(refine xsS ?_ ?_;all_goals first|exact False.elim|intro hp hc)|refine xsA ?_ ?_)
 ·apply qI;rfl;have h60:60 < l.length:=by omega
  simp [jv,h60]
 have h60:¬ 60 < l.length:=by omega
 refine Zq (ts:=[(0,qU l),(15,qU l),(16,.v (.int .i64 l.length)),(17,.v (.int .i64 ((0:Nat):Int)))]) ?_
 all_goals try (rw [List.length_map];done)
 refine qB (fun n σ => ∃ i:Nat,i ≤ l.length ∧ n = l.length - i ∧ (∀ g,g ∈ l.take i → xA g = 0) ∧ σ = ⟨[(0,qU l),(15,qU l),(16,.v (.int .i64 l.length)),(17,.v (.int .i64 (i:Int)))],[],C.nh⟩) l.length ⟨0,Nat.zero_le _,rfl,(by simp),rfl⟩ ?_;rintro n σ ⟨i,hi,rfl,hsofar,rfl⟩;by_cases hlt:i < l.length
 ·have hr:=qK (f:=Ent.row) hlt;have hsm:=hl.each l[i] (List.getElem_mem _);have hce:=qbU l[i] hsm
  repeat' (first|refine qg ?_|(first|refine jT (hce ..) ?_)|(refine xsS ?_ ?_;all_goals first|exact False.elim|intro hp hc)|refine xsA ?_ ?_)
  all_goals try (exfalso;omega)
  ·apply qI;rfl;exact qeU h60 hlt hsofar (by assumption)
  ·refine ⟨l.length - (i + 1),_,by omega,xsM (ts:=[(0,qU l),(15,qU l),(16,.v (.int .i64 l.length)),(17,.v (.int .i64 ((i + 1:Nat):Int)))]),i + 1,by omega,rfl,jJ hlt hsofar (by assumption),rfl⟩
 obtain rfl:i = l.length:=by omega
 have hz:jp xA l = 0:=jA.2 (fun s hs=>hsofar s qaw);clear hsofar
 repeat' (first|refine qg ?_|fail|(refine xsS ?_ ?_;all_goals first|exact False.elim|intro hp hc)|refine xsA ?_ ?_)
 all_goals try (exfalso;omega)
 refine Zq (ts:=[(0,qU l),(6,.v (.int .i64 ((0 + 1:Nat):Int)))]) ?_;refine qB (fun n σ => ∃ i:Nat,i ≤ (l.drop 1).length ∧ n = (l.drop 1).length - i ∧ (∀ (k:Nat) (h:k + 1 < l.length),k < i → yq (l[k]'(by omega)) l[k + 1] = true) ∧ σ = ⟨[(0,qU l),(6,.v (.int .i64 ((i + 1:Nat):Int)))],[],C.nh⟩) (l.drop 1).length ⟨0,Nat.zero_le _,rfl,(fun k h hk=>absurd hk (Nat.not_lt_zero _)),rfl⟩ ?_;have hdl:(l.drop 1).length = l.length - 1:=by simp
 rintro n σ ⟨i,hi,rfl,hsofar,rfl⟩;by_cases hlt:i + 1 < l.length
 ·have hr:=qK (f:=Ent.row) hlt;have hr':=qK (f:=Ent.row) (l:=l) (i:=i) (by omega);have hle:=qm0 l[i] l[i + 1]
  repeat' (first|refine qg ?_|fail|(refine xsS ?_ ?_;all_goals first|exact False.elim|intro hp hc)|refine xsA ?_ ?_)
  all_goals try (exfalso;omega)
  ·have hrf:¬ ql yq l = true:=fun h=>by
    have:=yt.1 h i hlt;simp_all
   apply qI;rfl;simp [jv,h60,hz,hrf]
  ·have hok:yq l[i] l[i + 1] = true:=(by simp_all)
   refine ⟨(l.drop 1).length - (i + 1),_,by omega,yC (ts:=[(0,qU l),(6,.v (.int .i64 ((i + 1 + 1:Nat):Int)))]) ?_,i + 1,by omega,rfl,(fun k h hk=>by
    by_cases e:k = i
    ·subst e;exact hok
    ·exact hsofar k h (by omega)),rfl⟩;((repeat (first|exact qx|refine jz ?_|refine xy ?_ ?_)))
 have hrise:ql yq l = true:=yt.2 fun k h=>hsofar k h (by simp at hi;omega)
 clear hsofar
 repeat' (first|refine qg ?_|fail|(refine xsS ?_ ?_;all_goals first|exact False.elim|intro hp hc)|refine xsA ?_ ?_)
 all_goals try (exfalso;omega)
 refine Zq (ts:=[(0,qU l),(7,.v (.int .i64 (if (l.take 0).any (fun x=>decide (¬ xW l x = 0)) = true then 4 else 0))),(45,qU l),(46,.v (.int .i64 l.length)),(47,.v (.int .i64 ((0:Nat):Int)))]) ?_
 all_goals try (rw [List.length_map];done)
 refine qB (fun n σ => ∃ i:Nat,i ≤ l.length ∧ n = l.length - i ∧ (∀ g,g ∈ l.take i → ¬ xW l g = 5) ∧ σ = ⟨[(0,qU l),(7,.v (.int .i64 (if (l.take i).any (fun x=>decide (¬ xW l x = 0)) = true then 4 else 0))),(45,qU l),(46,.v (.int .i64 l.length)),(47,.v (.int .i64 (i:Int)))],[],C.nh⟩) l.length ⟨0,Nat.zero_le _,rfl,(by simp),rfl⟩ ?_;rintro n σ ⟨i,hi,rfl,hsofar,rfl⟩;by_cases hlt:i < l.length
 ·have hr:=qK (f:=Ent.row) hlt;have hsm:=hl.each l[i] (List.getElem_mem _);have hpa:=qa3 l l[i].path hl.len hrise (by have:=hsm.1;omega);have hpe:xW l l[i] = _:=qac l l[i].path;have htk:=List.take_succ_eq_append_getElem hlt;generalize YS l l[i].path = ok at hpa hpe;generalize QN l l[i].path = pe at hpa hpe
  repeat' (first|refine qg ?_|(first|refine yS (hpa ..) ?_)|(refine xsS ?_ ?_;all_goals first|exact False.elim|intro hp hc)|refine xsA ?_ ?_)
  all_goals try (exfalso;omega)
  ·have h5:xW l l[i] = 5:=(by rw [hpe];simp_all)
   have hany:l.any (fun x=>decide (xW l x = 5)) = true:=List.any_eq_true.2 ⟨l[i],List.getElem_mem _,by simp [h5]⟩;apply qI;rfl;simp [jv,h60,hz,hrise,hany]
  ·have h4:xW l l[i] = 4:=(by rw [hpe];simp_all)
   refine ⟨l.length - (i + 1),_,by omega,yC (ts:=[(0,qU l),(7,.v (.int .i64 (if (l.take (i + 1)).any (fun x=>decide (¬ xW l x = 0)) = true then 4 else 0))),(45,qU l),(46,.v (.int .i64 l.length)),(47,.v (.int .i64 ((i + 1:Nat):Int)))]) ?_,i + 1,by omega,rfl,jJ hlt hsofar (by rw [h4];decide),rfl⟩;((repeat (first|exact qx|refine jz ?_|refine xy ?_ ?_));all_goals (rw [htk,List.any_append];simp [h4]))
  ·have h4:xW l l[i] = 0:=(by rw [hpe];simp_all)
   refine ⟨l.length - (i + 1),_,by omega,yC (ts:=[(0,qU l),(7,.v (.int .i64 (if (l.take (i + 1)).any (fun x=>decide (¬ xW l x = 0)) = true then 4 else 0))),(45,qU l),(46,.v (.int .i64 l.length)),(47,.v (.int .i64 ((i + 1:Nat):Int)))]) ?_,i + 1,by omega,rfl,jJ hlt hsofar (by rw [h4];decide),rfl⟩;((repeat (first|exact qx|refine jz ?_|refine xy ?_ ?_));all_goals (rw [htk,List.any_append];simp [h4]))
 obtain rfl:i = l.length:=by omega
 rw [List.take_length] at *
 have hno:¬ l.any (fun x=>decide (xW l x = 5)) = true:=fun h=>by
  obtain ⟨x,hx,hk⟩:=List.any_eq_true.1 h;exact hsofar x hx (by simpa using hk)
 have hE:jv l = if l.any (fun x=>decide (¬ xW l x = 0)) = true then 4 else 0:=by
  unfold jv;rw [if_neg h60,if_pos hz,if_pos hrise,if_neg hno]
 repeat' (first|refine qg ?_|fail|(refine xsS ?_ ?_;all_goals first|exact False.elim|intro hp hc)|refine xsA ?_ ?_)
 all_goals try (exfalso;omega)
 apply qI;rfl;exact hE.symm
def Zl (t:List Ent):List AV:=[qU t]
theorem qh2 (ts:List (List Ent)) (hn:ts.length ≤ 1000000) (hs : ∀ t,t ∈ ts → EBig t):jN C.P 190 [.sl false (ts.map Zl)] (.v (.int .i64 (jp jv ts))):=by
 refine qJ 0 ?_
 repeat' (first|refine qg ?_|fail|(refine xsS ?_ ?_;all_goals first|exact False.elim|intro hp hc)|refine xsA ?_ ?_)
 refine Zq (ts:=[(6,.sl false (ts.map Zl)),(7,.v (.int .i64 ts.length)),(8,.v (.int .i64 ((0:Nat):Int)))]) ?_
 all_goals try (rw [List.length_map];done)
 refine qB (fun n σ => ∃ i:Nat,i ≤ ts.length ∧ n = ts.length - i ∧ (∀ t,t ∈ ts.take i → jv t = 0) ∧ σ = ⟨[(6,.sl false (ts.map Zl)),(7,.v (.int .i64 ts.length)),(8,.v (.int .i64 (i:Int)))],[],C.nh⟩) ts.length ⟨0,Nat.zero_le _,rfl,(by simp),rfl⟩ ?_;rintro n σ ⟨i,hi,rfl,hsofar,rfl⟩;by_cases hlt:i < ts.length
 ·have hr:=qK (f:=Zl) hlt;have hct:=qda ts[i] (hs _ (List.getElem_mem _))
  repeat' (first|refine qg ?_|(first|refine yS (hct ..) ?_)|(refine xsS ?_ ?_;all_goals first|exact False.elim|intro hp hc)|refine xsA ?_ ?_)
  all_goals try (exfalso;omega)
  ·apply qI;rfl;exact (kY hlt hsofar (by assumption)).symm
  ·refine ⟨ts.length - (i + 1),_,by omega,xsM (ts:=[(6,.sl false (ts.map Zl)),(7,.v (.int .i64 ts.length)),(8,.v (.int .i64 ((i + 1:Nat):Int)))]),i + 1,by omega,rfl,jJ hlt hsofar (by assumption),rfl⟩
 obtain rfl:i = ts.length:=by omega
 have hz:jp jv ts = 0:=jA.2 (fun s hs=>hsofar s qaw);clear hsofar
 repeat' (first|refine qg ?_|fail|(refine xsS ?_ ?_;all_goals first|exact False.elim|intro hp hc)|refine xsA ?_ ?_)
 all_goals try (exfalso;omega)
 apply qI;rfl;exact hz.symm
theorem qc9 (l:List Ent) (hl:EBig l):jN C.P 190 [.sl false [[qU l]]] (.v (.int .i64 (jv l))):=by
 have h:=qh2 [l] (by simp) (by simpa using hl);rw [show jp jv [l] = jv l from by simp only [jp];split<;>simp_all] at h;exact h
theorem qj0 (l:List Ent) (hl:EBig l):jN C.P 155 [qU l] (.v (.int .i64 (jv l))):=by
 have h:=qc9 l hl;refine qJ 0 ?_
 repeat' (first|refine qg ?_|(first|(refine jd ?_)|refine yS (h ..) ?_)|(refine xsS ?_ ?_;all_goals first|exact False.elim|intro hp hc)|refine xsA ?_ ?_)
 all_goals (apply qI;rfl;rfl)
end Go.Proofs.YtgcncinnlmjgdaaGreatDoor
