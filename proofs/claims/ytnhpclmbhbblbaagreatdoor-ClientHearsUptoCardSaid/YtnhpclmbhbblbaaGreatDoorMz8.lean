import Derived.Test.YtnhpclmbhbblbaaGreatDoorMz7
import Derived.RangeFuncNested
import Derived.RangeFuncBound
import Derived.RangeFuncCalls
import Derived.RangeFuncLeaves
import Derived.Shelf.Abstract
import Derived.Shelf.RegionOpen
import Derived.WalkKit
import Derived.OwnWalkIn
import Derived.TacticsInMore
import Derived.LoopNIn
import Derived.LoopIn
import Derived.Test.YtnhpclmbhbblbaaGreatDoorMz6
set_option linter.unusedSimpArgs false
set_option linter.unnecessarySimpa false
namespace Go.Proofs.YtnhpclmbhbblbaaGreatDoor
open Go.Ab Go.RowKit Go.Shelf
set_option maxRecDepth 10000
attribute [local go_sem] Oper.semAt_some
abbrev v7 (s:qQ):Value := .string ⟨s.toArray⟩
abbrev Yf (b:Nat):Value := .pointer (some ⟨b,0,none⟩)
theorem KX (p:qQ) (w:World):Calls Tryz.prog 158 #[v7 p,v7 kS,.int .i64 0] w fun e w' =>
  e = .returned (.func (.func 176) #[] #[Yf (w.heap.size + 1),Yf w.heap.size,Yf (w.heap.size + 2)]) ∧ w' = ((w.alloc (.cells #[v7 p] 9)).alloc (.cells #[v7 kS] 9)).alloc (.cells #[.int .i64 0] 3):=by
 go_enter Tryz.func158,Tryz.ntmps158
 go_wp2
 go_ret
 refine ⟨rfl,rfl⟩
theorem Kn (p:qQ) (w:World):Calls Tryz.prog 131 #[v7 p,v7 kS] w fun e w' =>
  e = .returned (.func (.func 176) #[] #[Yf (w.heap.size + 1),Yf w.heap.size,Yf (w.heap.size + 2)]) ∧ w' = ((w.alloc (.cells #[v7 p] 9)).alloc (.cells #[v7 kS] 9)).alloc (.cells #[.int .i64 0] 3):=by
 go_enter Tryz.func131,Tryz.ntmps131
 go_wp2_with (go_at_call 158;refine (KX _ _).mono ?_;rintro e w' ⟨rfl,rfl⟩)
 go_ret
 refine ⟨rfl,rfl⟩
theorem Zw (s:qQ) (c:UInt8) (w:World):Calls Tryz.prog 107 #[v7 s,.int .u8 (c.toNat:Int)] w fun e w'=>e = .returned (.int .i64 (Lib.indexByte s c)) ∧ w' = w:=by
 go_enter Tryz.func107,Tryz.ntmps107
 go_wp2
 rw [run_callFunc_extern Tryz.func130 (by kernel_rfl) (by kernel_rfl) (by kernel_rfl) (e:=Extern.BytealgIndexByte.indexByte) (by kernel_rfl),Lib.run_indexByteString]
 simp only [Result.andThen]
 rw [Oper.upon_value]
 go_wp2
 go_ret
 refine ⟨?_,rfl⟩
 simp
theorem qa1 (s:qQ) (w:World):Calls Tryz.prog 180 #[v7 s,v7 kS] w fun e w'=>e = .returned (.int .i64 (Lib.indexByte s 47)) ∧ w' = w:=by
 show Calls _ _ #[v7 s,.string ⟨#[47]⟩] w _
 go_enter Tryz.func180,Tryz.ntmps180
 go_wp2_with (go_at_call 107;refine (Zw s 47 _).mono ?_;rintro e w' ⟨rfl,rfl⟩)
 ·go_ret
  refine ⟨?_,rfl⟩
  have e:([47]:qQ) = s:=by first|assumption|(simp_all;done)
  subst e
  rfl
 ·go_ret
  exact ⟨rfl,rfl⟩
theorem Z2 (s:qQ) (w:World):Calls Tryz.prog 164 #[v7 s,v7 kS] w fun e w'=>e = .returned (.int .i64 (Lib.indexByte s 47)) ∧ w.grownBy w' none:=by
 go_enter Tryz.func164,Tryz.ntmps164
 go_wp2_with (go_at_call 180;refine (qa1 _ _).mono ?_;rintro e w' ⟨rfl,rfl⟩)
 go_ret
 exact ⟨rfl,⟨rfl,rfl,rfl,Nat.le_refl _,fun _ _ _=>rfl⟩⟩
theorem WJ (s:qQ):(Lib.indexByte s 47 = -1 ∧ (47:UInt8) ∉ s) ∨ ∃ a b,s = a ++ 47 :: b ∧ (47:UInt8) ∉ a ∧ Lib.indexByte s 47 = a.length:=by
 induction s with
 | nil=>exact .inl ⟨rfl,by simp⟩
 | cons c s ih =>
   by_cases hc:c = 47
   ·subst hc;exact .inr ⟨[],s,rfl,by simp,by simp [Lib.indexByte]⟩
   ·rcases ih with ⟨h1,h2⟩|⟨a,b,h1,h2,h3⟩
    ·exact .inl ⟨by simp [Lib.indexByte,hc,h1],by simp only [List.mem_cons,not_or];exact ⟨fun e=>hc e.symm,h2⟩⟩
    ·refine .inr ⟨c :: a,b,by simp [h1],by simp only [List.mem_cons,not_or];exact ⟨fun e=>hc e.symm,h2⟩,?_⟩
     have:¬ Lib.indexByte s 47 = -1:=by omega
     simp [Lib.indexByte,hc,this,h3]
theorem xI {W:World} {b T:Nat} {v:Value} (h:W.heap[b]? = some (.cells #[v] T (0,0))):W.cell? ⟨b,0,none⟩ = some v ∧ W.frozen? ⟨b,0,none⟩ = false:=by simp [World.cell?,World.frozen?,h]
theorem kept {A B:World} {k:Nat} {o:Obj} (hg:A.grownBy B Option.none) (h:A.heap[k]? = some o):B.heap[k]? = some o:=(hg.block k (Array.getElem?_eq_some_iff.1 h).1 (by simp)).trans h
theorem _root_.Go.World.grownBy.weaken {A B:World} (h:A.grownBy B Option.none) (r:Option Nat):A.grownBy B r:=⟨h.os,h.tape,h.output,h.size,fun k hk _=>h.block k hk (by simp)⟩
theorem wrap64_in {x:Int} (h1:0 ≤ x) (h2:x ≤ 9223372036854775807):wrap64 x = x:=IntWalk.wrap64_in x ⟨by omega,by omega⟩
theorem Jb (l:List UInt8) (a b:Nat):ByteArray.extract ⟨l.toArray⟩ a b = ⟨((l.take b).drop a).toArray⟩:=by
 have h:(ByteArray.extract ⟨l.toArray⟩ a b).data = ((l.take b).drop a).toArray:=by simp [List.drop_take]
 calc ByteArray.extract ⟨l.toArray⟩ a b = ⟨(ByteArray.extract ⟨l.toArray⟩ a b).data⟩:=rfl
  _ = _:=by rw [h]
theorem heap_set {W:World} {b T:Nat} {v:Value} (h:W.heap[b]? = some (.cells #[v] T (0,0))) (u:Value):(W.setCell ⟨b,0,none⟩ u).heap[b]? = some (.cells #[u] T (0,0)):=by
 obtain ⟨hlt,hb⟩:=Array.getElem?_eq_some_iff.1 h
 show (W.heap.modify b _)[b]? = _
 rw [Array.getElem?_eq_getElem (by rw [Array.size_modify];exact hlt),Array.getElem_modify_self,hb]
 rfl
theorem wU (W:World) {b k:Nat} (u:Value) (h:k ≠ b):(W.setCell ⟨b,0,none⟩ u).heap[k]? = W.heap[k]?:=Below.heap_setCell W ⟨b,0,none⟩ u k h
def qed (S:Nat) (w:World):Nat:=match w.cell? ⟨S,0,none⟩ with|some (.string s)=>s.size|_=>0
theorem qbn (n:Nat) (hn:1 ≤ n) (p:qQ) (hp:p.length ≤ 140737488355328) (w0:World) (S:Nat) (h0:w0.heap[S]? = some (.cells #[v7 p] 9 (0,0))) (h1:w0.heap[S + 1]? = some (.cells #[v7 kS] 9 (0,0))) (h2:w0.heap[S + 2]? = some (.cells #[.int .i64 0] 3 (0,0))) :
  Wc Fence.wide n Tryz.prog 176 #[Yf (S + 1),Yf S,Yf (S + 2)] S (qo p) w0:=by
 intro l J Jx W hW hJ hJx hY hJ0
 have hS:W.heap[S]? = some (.cells #[v7 p] 9 (0,0)):=(hW S (by omega) (by omega)).trans h0
 have hS1:W.heap[S + 1]? = some (.cells #[v7 kS] 9 (0,0)):=(hW (S + 1) (by omega) (by omega)).trans h1
 have hS2:W.heap[S + 2]? = some (.cells #[.int .i64 0] 3 (0,0)):=(hW (S + 2) (by omega) (by omega)).trans h2
 have c1:=(xI hS1).1
 have hsl:List.length kS = 1:=rfl
 refine callsIn_of_wp Tryz.func176 rfl trivial ?_ rfl
 simp only [Tryz.ntmps176,List.size_toArray,List.length_cons,List.length_nil,Nat.reduceAdd,Nat.reduceSub,Array.replicate_succ,Array.replicate_zero,List.push_toArray,List.append_toArray,List.cons_append,List.nil_append]
 gi_wp2
 gi_loopw [7] (fun _ wr => ∃ (pre:List qQ) (rest:qQ),qo p = pre ++ qo rest ∧ rest.length ≤ p.length ∧ wr.heap[S]? = some (.cells #[v7 rest] 9 (0,0)) ∧ wr.heap[S + 1]? = some (.cells #[v7 kS] 9 (0,0)) ∧ wr.heap[S + 2]? = some (.cells #[.int .i64 0] 3 (0,0)) ∧ J pre wr) (fun _ wr=>qed S wr)
 case atStart=>exact ⟨[],p,rfl,Nat.le_refl _,hS,hS1,hS2,hJ0⟩
 case round =>
  obtain ⟨pre,rest,hx,hlen,hb,hb1,hb2,hJs⟩:=hrel
  have c0:=(xI hb).1
  have c1:=(xI hb1).1
  have c2:=(xI hb2).1
  rcases WJ rest with ⟨hm,hfree⟩|⟨a,b,rfl,hfa,hi⟩
  ·have hpre:pre ++ [rest] <+: qo p:=by rw [hx,yU hfree];exact List.prefix_refl _
   gi_wp2_with (refine ⟨trivial,?_⟩;gi_at_call 164;refine (callsIn_wide.2 (Z2 _ _)).mono ?_;rintro e w1 ⟨rfl,hg⟩;have hd0:=kept hg hb;have hd1:=kept hg hb1;have hd2:=kept hg hb2;have d0:=(xI hd0).1;have d1:=(xI hd1).1;have d2:=(xI hd2).1;obtain ⟨fn,tmps,assign,body,hy,hR⟩:=hY pre rest w1 (hJ _ _ _ hJs (hg.weaken _)) hpre)
   refine hR.mono ?_
   rintro e W' (⟨rfl,hJ',hk⟩|⟨rfl,hJx'⟩)
   ·gi_wp2
    go_end0
    exact ⟨⟨_,rfl⟩,.inl (by rw [hx,yU hfree];exact hJ')⟩
   ·gi_wp2
    go_end0
    exact ⟨⟨_,rfl⟩,.inr ⟨_,hpre,hJx'⟩⟩
  ·have hpre:pre ++ [a] <+: qo p:=by rw [hx,k8 b hfa];exact ⟨qo b,by simp⟩
   have hw1:wrap64 (a.length:Int) = a.length:=wrap64_in (by omega) (by simp at hlen;omega)
   have hw2:wrap64 ((a.length:Int) + 1) = a.length + 1:=wrap64_in (by omega) (by simp at hlen;omega)
   have hs1:=Jb (a ++ 47 :: b) 0 a.length
   have hs3:({ data:=List.toArray (a ++ 47 :: b) }:ByteArray).extract (a.length + 1) (a.length + (b.length + 1)) = ⟨b.toArray⟩:=by
    rw [Jb,List.take_of_length_le (by simp),List.drop_append,List.drop_of_length_le (by omega),List.nil_append,show a.length + 1 - a.length = 1 from by omega];rfl
   have hs2:=Jb (a ++ 47 :: b) (a.length + 1) (a ++ 47 :: b).length
   gi_wp2_with (refine ⟨trivial,?_⟩;gi_at_call 164;refine (callsIn_wide.2 (Z2 _ _)).mono ?_;rintro e w1 ⟨rfl,hg⟩;have hd0:=kept hg hb;have hd1:=kept hg hb1;have hd2:=kept hg hb2;have d0:=(xI hd0).1;have d1:=(xI hd1).1;have d2:=(xI hd2).1;obtain ⟨fn,tmps,assign,body,hy,hR⟩:=hY pre a w1 (hJ _ _ _ hJs (hg.weaken _)) hpre)
   refine hR.mono ?_
   rintro e W' (⟨rfl,hJ',hk⟩|⟨rfl,hJx'⟩)
   ·have he0:=(hk S (by omega) (by omega)).trans hd0
    have he1:=(hk (S + 1) (by omega) (by omega)).trans hd1
    have he2:=(hk (S + 2) (by omega) (by omega)).trans hd2
    have e0:=(xI he0).1
    have e1:=(xI he1).1
    have e2:=(xI he2).1
    have f0:=(xI he0).2
    gi_wp2
    go_roundw
    case rel=>exact ⟨pre ++ [a],b,by rw [hx,k8 b hfa];simp,by simp at hlen;omega,heap_set he0 _,(wU W' _ (by omega)).trans he1,(wU W' _ (by omega)).trans he2,hJ _ _ _ hJ' (grownBy_setCell' W' S _)⟩
    case measure =>
     simp [qed,(xI (heap_set he0 (v7 b))).1,c0,ByteArray.size]
     omega
   ·gi_wp2
    refine bodyPost_ret (results_none rfl _ _ _) rfl ?_
    exact ⟨⟨_,rfl⟩,.inr ⟨_,hpre,hJx'⟩⟩
end Go.Proofs.YtnhpclmbhbblbaaGreatDoor
set_option linter.unusedSimpArgs false
set_option linter.unnecessarySimpa false
namespace Go.Proofs.YtnhpclmbhbblbaaGreatDoor
open Go.Ab Go.RowKit Go.Shelf
set_option maxRecDepth 10000
attribute [local go_sem] Oper.semAt_some
def qN (s:qQ):List AV:=[.v (str s)]
abbrev mk (D:Nat):Deferred := { target := .collected D,args := #[] }
theorem qck (s:qQ) (w:World):Calls Tryz.prog 137 #[v7 s,v7 kS] w fun e w'=>e = .returned (.int .i64 (s.count 47:Nat)) ∧ w' = w:=by
 show Calls _ _ #[v7 s,.string ⟨#[47]⟩] w _
 go_enter Tryz.func137,Tryz.ntmps137
 go_wp2
 rw [run_callFunc_extern Tryz.func163 (by kernel_rfl) (by kernel_rfl) (by kernel_rfl) (e:=Extern.BytealgCount.count) (by kernel_rfl),Lib.run_countString]
 simp only [Result.andThen]
 rw [Oper.upon_value]
 go_wp2
 go_ret
 refine ⟨?_,rfl⟩
 simp [Lib.countByte]
 rfl
theorem Z1 (s:qQ) (w:World):Calls Tryz.prog 114 #[v7 s] w fun e w'=>e = .returned (.bool (jZ s)) ∧ w.grownBy w' none:=by
 have htg:=Jq s
 have hg0:w.grownBy w none:=⟨rfl,rfl,rfl,Nat.le_refl _,fun _ _ _=>rfl⟩
 go_enter Tryz.func114,Tryz.ntmps114
 go_wp2_with (go_at_call 137;refine (qck s _).mono ?_;rintro e w' ⟨rfl,rfl⟩)
 all_goals go_ret
 all_goals (refine ⟨?_,hg0⟩)
 ·show Ending.returned (Value.bool _) = _
  try rw [htg]
  congr 2
  rw [Bool.eq_iff_iff]
  simp
  omega
 ·show Ending.returned (Value.bool true) = _
  try rw [htg]
  congr 2
  have h6:6 ≤ s.count 47:=by first|omega|(simp_all;done)|(simp_all;omega)
  simp [h6]
theorem YL {F:Fence} {n:Nat} {P:Program} {fn:Func} {tmps:Array Value} {R:Ending → World → Prop} : ∀ (Ds:List Nat) (W:World),Ds.Nodup → (∀ D,D ∈ Ds → W.heap[D]? = some (.deferred (some []))) →
  (∀ W',W.heap.size = W'.heap.size → W'.os = W.os → W'.tape = W.tape → W'.output = W.output → (∀ k,k ∉ Ds → W'.heap[k]? = W.heap[k]?) → LeavesInM F n P fn tmps R [] .returning W') → LeavesInM F n P fn tmps R (Ds.map mk) .returning W
 | [],W,_,_,h=>h W rfl rfl rfl rfl fun _ _=>rfl
 | D :: Ds,W,hn,hd,h=>by
   obtain ⟨h1,h2⟩:=List.nodup_cons.1 hn
   have hK:=hd D (by simp)
   refine ⟨by simp,.inl ⟨D,_,rfl,run_takeDeferred hK,YL Ds _ h2 (fun D' hD'=>(World.putObj_heap_other (by rintro rfl;exact h1 hD')).trans (hd D' (by simp [hD']))) fun W' a1 a2 a3 a4 a5=>?_⟩⟩
   refine h W' (by rw [← a1];simp) a2 a3 a4 fun k hk=>?_
   simp only [List.mem_cons,not_or] at hk
   exact (a5 k hk.2).trans (World.putObj_heap_other hk.1)
structure ChkW (w:World) (e:Int) (Ds:List Nat) (W:World):Prop where
 below:Below w.heap.size w W
 cell:W.heap[w.heap.size]? = some (.cells #[.int .i64 e] 24 (0,0))
 marks : ∀ D,D ∈ Ds → w.heap.size < D ∧ W.heap[D]? = some (.deferred (some []))
theorem ChkW.grown {w:World} {e:Int} {Ds:List Nat} {W W' : World} {row:Option Nat} (h:ChkW w e Ds W) (hg:W.grownBy W' row) (hr : ∀ r,row = some r → w.heap.size < r ∧ r ∉ Ds):ChkW w e Ds W':=by
 have hlt:=(Array.getElem?_eq_some_iff.1 h.cell).1
 refine ⟨h.below.grown hg (by omega) (fun k e=>by have:=(hr k e).1;omega),(hg.block _ hlt (fun e=>by have:=(hr _ e.symm).1;omega)).trans h.cell,fun D hD=>⟨(h.marks D hD).1,?_⟩⟩
 exact (hg.block D (Array.getElem?_eq_some_iff.1 (h.marks D hD).2).1 (fun e=>(hr _ e.symm).2 hD)).trans (h.marks D hD).2
theorem ChkW.lt {w:World} {e:Int} {Ds:List Nat} {W:World} (h:ChkW w e Ds W):w.heap.size < W.heap.size:=(Array.getElem?_eq_some_iff.1 h.cell).1
theorem ChkW.mlt {w:World} {e:Int} {Ds:List Nat} {W:World} (h:ChkW w e Ds W) : ∀ D,D ∈ Ds → D < W.heap.size:=fun D hD=>(Array.getElem?_eq_some_iff.1 (h.marks D hD).2).1
theorem ChkW.set {w:World} {e:Int} {Ds:List Nat} {W:World} (h:ChkW w e Ds W) (e' : Int):ChkW w e' Ds (W.setCell ⟨w.heap.size,0,Option.none⟩ (.int .i64 e')) :=
 ⟨h.below.setCell (Nat.le_refl _) _,heap_set h.cell _,fun D hD=>⟨(h.marks D hD).1,(wU W _ (by have:=(h.marks D hD).1;omega)).trans (h.marks D hD).2⟩⟩
theorem QJ {n:Nat} {tmps:Array Value} {w W:World} {e:Int} {Ds:List Nat} (h:ChkW w e Ds W) (hn:Ds.Nodup) (ht:tmps.getD 2 undef = .pointer (some ⟨w.heap.size,0,Option.none⟩)) :
  LeavesInM Fence.wide n Tryz.prog Tryz.f109 tmps (fun en w'=>en = .returned (.int .i64 e) ∧ w.grownBy w' Option.none) (Ds.map mk) .returning W:=by
 refine YL Ds W hn (fun D hD=>(h.marks D hD).2) fun W' a1 a2 a3 a4 a5=>?_
 have hc:W'.heap[w.heap.size]? = some (.cells #[.int .i64 e] 24 (0,0)):=(a5 _ (fun hm=>absurd (h.marks _ hm).1 (Nat.lt_irrefl _))).trans h.cell
 have hcell:=(xI hc).1
 refine ⟨.int .i64 e,?_,rfl,⟨a2.trans h.below.os,a3.trans h.below.tape,a4.trans h.below.output,by have:=h.below.size;omega,fun k hk _=>(a5 k (fun hm=>by have:=(h.marks k hm).1;omega)).trans (h.below.block k hk)⟩⟩
 simp only [Array.getD_eq_getD_getElem?] at ht
 simp [results,Tryz.results109,go_sem,ht,hcell]
theorem WX {w W X:World} {e e' : Int} {Ds:List Nat} {D:Nat} (hW:ChkW w e Ds W) (hnd:Ds.Nodup) (hX:ChkW w e' Ds X) (hK:X.heap[D]? = some (.deferred (some []))) (hD:W.heap.size ≤ D) :
  ChkW w e' (D :: Ds) X ∧ (D :: Ds).Nodup ∧ mk D :: Ds.map mk = (D :: Ds).map mk:=by
 have:=hW.lt
 refine ⟨⟨hX.below,hX.cell,fun D' hD'=>?_⟩,List.nodup_cons.2 ⟨fun hm=>by have:=hW.mlt _ hm;omega,hnd⟩,rfl⟩
 rcases List.mem_cons.1 hD' with rfl|h
 ·exact ⟨by omega,hK⟩
 ·exact hX.marks D' h
theorem JX {p n:qQ} (h:n ∈ qo p):n.length ≤ p.length:=by
 induction p generalizing n with
 | nil=>simp [qo] at h;subst h;simp
 | cons c s ih =>
   simp only [qo] at h
   split at h
   ·rcases List.mem_cons.1 h with rfl|h
    ·simp
    ·have:=ih h;simp;omega
   ·split at h
    ·simp at h;subst h;simp
    ·rename_i m l hm
     rcases List.mem_cons.1 h with rfl|h
     ·have:=ih (n:=m) (by rw [hm];simp);simp;omega
     ·have:=ih (n:=n) (by rw [hm];simp [h]);simp;omega
theorem Jj {ps:List qQ} {i:Nat} (h:i < ps.length):xb (ps.drop i) = if qy ps[i] = 0 then xb (ps.drop (i + 1)) else qy ps[i]:=by
 rw [List.drop_eq_getElem_cons h];rfl
theorem ZL (ps:List qQ) (hps:ps.length ≤ 1000000) (hsz : ∀ p,p ∈ ps → p.length ≤ 140737488355328) (A:Option Addr) (cap:Nat) (w:World)
  (hA : ∀ i (h:i < ps.length), ∃ bb off,A = some ⟨bb,off,Option.none⟩ ∧ bb < w.heap.size ∧ w.cell? ⟨bb,off + i,Option.none⟩ = some (v7 ps[i])) :
  Calls Tryz.prog 109 #[.slice A ps.length cap] w fun e w'=>e = .returned (.int .i64 (xb ps)) ∧ w.grownBy w' Option.none:=by
 refine (callsIn_wide (n:=10)).1 ?_
 refine callsIn_of_wp_marks Tryz.func109 rfl trivial ?_ rfl
 simp only [Tryz.ntmps109,List.size_toArray,List.length_cons,List.length_nil,Nat.reduceAdd,Nat.reduceSub,Array.replicate_succ,Array.replicate_zero,List.push_toArray,List.append_toArray,List.cons_append,List.nil_append]
 gi_wp2
 refine wpIn_loop (fun a W => ∃ (i:Nat) (Ds:List Nat) (u4 u5 u9 u10 u11 u12 u13 u14 u15 u16 u17 u18 u19 u20:Value),i ≤ ps.length ∧ xb ps = xb (ps.drop i) ∧ Ds.Nodup ∧ ChkW w 0 Ds W ∧
  a = { tmps := #[.slice A ps.length cap,undef,.pointer (some ⟨w.heap.size,0,Option.none⟩),undef,u4,u5,.slice A ps.length cap,.int .i64 ps.length,.int .i64 i,u9,u10,u11,u12,u13,u14,u15,u16,u17,u18,u19,u20],defers:=Ds.map mk })
  (fun a _=>ps.length - (intOf (a.tmps.getD 8 undef)).toNat) ⟨0,[],undef,undef,undef,undef,undef,undef,undef,undef,undef,undef,undef,undef,undef,undef,Nat.zero_le _,rfl,List.nodup_nil,?start,rfl⟩ ?round
 case start=>exact ⟨(Below.refl _ w).alloc (Nat.le_refl _) _,World.alloc_heap_new w _,nofun⟩
 case round =>
  rintro a W ⟨i,Ds,u4,u5,u9,u10,u11,u12,u13,u14,u15,u16,u17,u18,u19,u20,hi,herr,hnd,hW,rfl⟩
  have hlt0:=hW.lt
  have cE:=(xI hW.cell).1
  have fE:=(xI hW.cell).2
  by_cases hlt:i < ps.length
  ·obtain ⟨bb,off,hAA,hbb,hcell⟩:=hA i hlt
   subst hAA
   have hc:W.cell? ⟨bb,off + i,Option.none⟩ = some (v7 ps[i]):=by rw [World.cell?_of_block (hW.below.block bb hbb)];exact hcell
   gi_wp2_with (refine ⟨trivial,?_⟩;gi_at_call 131;refine (callsIn_wide.2 (Kn _ _)).mono ?_;rintro e w' ⟨rfl,rfl⟩)
   have hst : ∀ e (X Y:World) row,ChkW w e Ds X → X.grownBy Y row → (∀ r,row = some r → W.heap.size ≤ r) → ChkW w e Ds Y:=fun e X Y row hX hg hr=>hX.grown hg fun r e=>by
    have h1:=hr r e
    exact ⟨by omega,fun hm=>by have:=hW.mlt r hm;omega⟩
   have hpi:=hsz ps[i] (List.getElem_mem hlt)
   have hW3:ChkW w 0 Ds (((W.alloc (.cells #[v7 ps[i]] 9)).alloc (.cells #[v7 kS] 9)).alloc (.cells #[.int .i64 0] 3)):=hst 0 _ _ Option.none hW ⟨rfl,rfl,rfl,by simp;omega,fun k hk _=>((Below.heap_alloc _ _ k (by simp;omega)).trans (Below.heap_alloc _ _ k (by simp;omega))).trans (Below.heap_alloc _ _ k hk)⟩ nofun
   refine JS (F:=Fence.wide) rfl (by decide) (gf:=176) (lb := #[Yf (W.heap.size + 1),Yf W.heap.size,Yf (W.heap.size + 2)]) rfl trivial (enters_of Tryz.func176 (by kernel_rfl) rfl) (S:=W.heap.size) (names:=qo ps[i]) (by simp) (qbn _ (by decide) ps[i] hpi _ _ ?s0 ?s1 ?s2) rfl
    (fun pre X=>(∀ x,x ∈ pre → jP x = true) ∧ ChkW w 0 Ds X) (fun pre X=>(∃ x,x ∈ pre ∧ jP x = false) ∧ ChkW w 1 Ds X)
    (fun s X Y row h hg hr=>⟨h.1,hst 0 X Y row h.2 hg hr⟩) (fun s X Y row h hg hr=>⟨h.1,hst 1 X Y row h.2 hg hr⟩) ⟨nofun,hW3⟩
    (fun x => { tmps := #[.slice (some ⟨bb,off,Option.none⟩) ps.length cap,undef,.pointer (some ⟨w.heap.size,0,Option.none⟩),undef,v7 ps[i],v7 x,.slice (some ⟨bb,off,Option.none⟩) ps.length cap,.int .i64 ps.length,.int .i64 i,.bool true,.pointer (some ⟨bb,off + i,Option.none⟩),v7 ps[i],v7 ps[i],.func (.func 176) #[] #[Yf (W.heap.size + 1),Yf W.heap.size,Yf (W.heap.size + 2)],v7 x,u15,u16,u17,u18,u19,u20],defers:=[] }) ?assign ?body ?done ?stop
   case s0=>exact (Below.heap_alloc _ _ _ (by simp;omega)).trans ((Below.heap_alloc _ _ _ (by simp)).trans (World.alloc_heap_new W _))
   case s1=>exact (Below.heap_alloc _ _ _ (by simp)).trans (by have:=World.alloc_heap_new (W.alloc (.cells #[v7 ps[i]] 9)) (.cells #[v7 kS] 9);rwa [World.size_alloc] at this)
   case s2=>exact (by have:=World.alloc_heap_new ((W.alloc (.cells #[v7 ps[i]] 9)).alloc (.cells #[v7 kS] 9)) (.cells #[.int .i64 0] 3);rwa [World.size_alloc,World.size_alloc] at this)
   case assign =>
    intro l x X K hK
    gi_wp2
    exact hK
   case body =>
    rintro l pre x X ⟨hpre,hX⟩ hpx hsX
    have hxn:x ∈ qo ps[i]:=hpx.subset (by simp)
    have hxl:x.length ≤ 9223372036854775807:=by have:=JX hxn;omega
    have cX:=(xI hX.cell).1
    have fX:=(xI hX.cell).2
    cases hb:jP x
    ·gi_wp2_with (refine ⟨trivial,?_⟩;gi_at_call 53;refine (CallsIn.inRound l (callsIn_wide.2 (Yc x _ hxl))).mono ?_;rintro e w1 ⟨rfl,rfl⟩)
     exact ⟨⟨by simp [World.setCell],fun k hk hle=>wU X _ (by omega)⟩,⟨x,by simp,hb⟩,hX.set 1⟩
    ·gi_wp2_with (refine ⟨trivial,?_⟩;gi_at_call 53;refine (CallsIn.inRound l (callsIn_wide.2 (Yc x _ hxl))).mono ?_;rintro e w1 ⟨rfl,rfl⟩)
     exact ⟨⟨Nat.le_refl _,fun _ _ _=>rfl⟩,fun y hy=>(List.mem_append.1 hy).elim (hpre y) (fun e=>by rw [List.mem_singleton.1 e];exact hb),hX⟩
   case done =>
    rintro X ⟨hpre,hX⟩ hK
    obtain ⟨hX',hnd', -⟩:=WX hW hnd hX (D:=W.heap.size + 3) (by simpa using hK) (by omega)
    have hall:(qo ps[i]).all jP = true:=List.all_eq_true.2 hpre
    cases hgt:jZ ps[i]
    ·have hpe:qy ps[i] = 0:=by simp [qy,hall,hgt]
     gi_wp2_with (refine ⟨trivial,?_⟩;gi_at_call 114;refine (callsIn_wide.2 (Z1 _ _)).mono ?_;rintro e w1 ⟨rfl,hg⟩;have hY:=hX'.grown hg nofun)
     refine ⟨⟨i + 1,(W.heap.size + 3) :: Ds,_,_,_,_,_,_,_,_,_,_,_,_,_,_,by omega,by rw [herr,Jj hlt,hpe];rfl,hnd',hY,rfl⟩,?_⟩
     simp [intOf]
     omega
    ·have hpe:qy ps[i] = 2:=by simp [qy,hall,hgt]
     have hz:xb ps = 2:=by rw [herr,Jj hlt,hpe];rfl
     gi_wp2_with (refine ⟨trivial,?_⟩;gi_at_call 114;refine (callsIn_wide.2 (Z1 _ _)).mono ?_;rintro e w1 ⟨rfl,hg⟩;have hY:=hX'.grown hg nofun;have cY:=(xI hY.cell).1;have fY:=(xI hY.cell).2)
     rw [hz]
     exact QJ (hY.set 2) hnd' rfl
   case stop =>
    rintro pre X hpre ⟨⟨x,hx,hb⟩,hX⟩ hK
    obtain ⟨hX',hnd', -⟩:=WX hW hnd hX (D:=W.heap.size + 3) (by simpa using hK) (by omega)
    have hall:¬ (qo ps[i]).all jP = true:=fun h=>by
     have:=List.all_eq_true.1 h x (hpre.subset hx)
     rw [hb] at this;cases this
    have hpe:qy ps[i] = 1:=by simp only [qy,hall];rfl
    have hz:xb ps = 1:=by rw [herr,Jj hlt,hpe];rfl
    gi_wp2
    rw [hz]
    simp only [World.size_alloc]
    exact QJ hX' hnd' rfl
  ·have hz:xb ps = 0:=by rw [herr,List.drop_of_length_le (by omega)];rfl
   gi_wp2
   rw [hz]
   exact QJ (hW.set 0) hnd rfl
theorem qby (ps:List qQ) (hps:ps.length ≤ 1000000) (hsz : ∀ p,p ∈ ps → p.length ≤ 140737488355328):yO C.P 109 [.sl false (ps.map qN)] (.v (.int .i64 (xb ps))):=by
 refine Wq rfl fun F ρ vs w hag hl hm=>?_
 obtain ⟨v,rfl⟩ : ∃ v,vs = [v]:=by
  match vs,hl with
  | [v],_=>exact ⟨v,rfl⟩
 have h1:=hm 0 v _ rfl rfl
 rcases h1.sl_inv with ⟨h0,ad,cap,hv,_⟩|⟨b,o,cap,c,e',fr,kk,hb,_,_,hsz',hkk,hR,hv⟩
 ·have hnil:ps = []:=List.map_eq_nil_iff.1 h0
  subst hnil
  rw [hv]
  exact ZL [] hps hsz ad cap w (fun i h=>absurd h (Nat.not_lt_zero _))
 ·rw [hv]
  have hk1 : ∀ i,i < ps.length → kk = 1:=fun i hi=>(hkk _ (List.getElem_mem (l:=ps.map qN) (n:=i) (by simpa using hi))).symm.trans (by simp [qN])
  have hbw:=hag b _ hb
  have:=ZL ps hps hsz (some ⟨b,o,Option.none⟩) cap w (fun i hi=>⟨b,o,rfl,(Array.getElem?_eq_some_iff.1 hbw).1,?_⟩)
  ·rw [List.length_map];exact this
  ·have hk:=hk1 i hi
   subst hk
   have hlt:o + i < c.size:=by simp at hsz';omega
   have hcv:c[o + i]? = some c[o + i]:=Array.getElem?_eq_getElem hlt
   have hrow:(ps.map qN)[i]? = some (qN ps[i]):=by simp [hi]
   have hMv:=hR i 0 (qN ps[i]) (.v (str ps[i])) c[o + i] hrow rfl (by simpa using hcv)
   have:=hMv.v_inv.1
   simp [World.cell?,hbw,hcv,this,str]
end Go.Proofs.YtnhpclmbhbblbaaGreatDoor
set_option linter.unusedSimpArgs false
set_option linter.unnecessarySimpa false
set_option maxHeartbeats 1000000
namespace Go.Proofs.YtnhpclmbhbblbaaGreatDoor
open Go.Ab Go.RowKit
set_option maxRecDepth 10000
attribute [local irreducible] Awp yl jE jl Red qX Go.Ab.Fin qW Rz vl jj ji ResOk jV jz yb jv
theorem qeQ (s:qQ) (c:UInt8) (hs:s.length ≤ 9223372036854775807):yO C.P 132 [.v (str s),.v (.int .u8 (c.toNat:Int))] (.v (.int .i64 (j9 c s))):=by
 refine qa Tryz.func132 rfl _ Tryz.ntmps132 (Nat.le_of_ble_eq_true rfl) _ Tryz.results132 0 rfl rfl ?_
 repeat' (first|refine qm ?_|fail|((first|refine xsC ?_ ?_);all_goals (intro hc;have hp:=hc;try simp at hp;try (exfalso;omega)))|refine qO ?_ ?_)
 (refine Awp.red (qv (ts:=[(0,.v (str s)),(1,.v (.int .u8 (c.toNat:Int))),(5,.v (.int .i64 ((s.length:Int) - 1 - ((0:Nat):Int))))]) ?_) ?_;((repeat (first|exact qg|refine qn ?_|refine qS ?_ ?_))))
 all_goals try (apply xi;omega)
 refine qP (fun n σ => ∃ i:Nat,i ≤ s.length ∧ n = s.length - i ∧ (c ∉ s.drop (s.length - i)) ∧ σ = ⟨[(0,.v (str s)),(1,.v (.int .u8 (c.toNat:Int))),(5,.v (.int .i64 ((s.length:Int) - 1 - (i:Int))))],[],C.nh⟩) s.length ⟨0,Nat.zero_le _,rfl,(by simp),rfl⟩ ?_
 rintro n σ ⟨i,hi,rfl,hsofar,rfl⟩
 by_cases hlt:i < s.length
 ·have hx:(s.length:Int) - 1 - (i:Int) = ((s.length - 1 - i:Nat):Int):=by omega
  have hk:s.length - 1 - i < s.length:=by omega
  have hr:s[s.length - 1 - i]? = some s[s.length - 1 - i]:=List.getElem?_eq_getElem hk
  rw [hx]
  repeat' (first|refine qm ?_|fail|((first|refine xsC ?_ ?_);all_goals (intro hc;have hp:=hc;try simp at hp;try (exfalso;omega)))|refine qO ?_ ?_)
  all_goals try (exfalso;omega)
  ·apply jL
   rfl
   have hc:s[s.length - 1 - i] = c:=UInt8.toNat.inj (by omega)
   exact (qa2 hk hc (by rw [show s.length - 1 - i + 1 = s.length - i from by omega];exact hsofar)).symm
  ·have hc:¬ s[s.length - 1 - i] = c:=fun e=>by subst e;omega
   have hnext:c ∉ s.drop (s.length - (i + 1)):=by
    rw [show s.length - (i + 1) = s.length - 1 - i from by omega,List.drop_eq_getElem_cons hk,show s.length - 1 - i + 1 = s.length - i from by omega]
    simp only [List.mem_cons,not_or]
    exact ⟨fun e=>hc e.symm,hsofar⟩
   refine ⟨s.length - (i + 1),_,by omega,qv (ts:=[(0,.v (str s)),(1,.v (.int .u8 (c.toNat:Int))),(5,.v (.int .i64 ((s.length:Int) - 1 - ((i + 1:Nat):Int))))]) ?_,i + 1,by omega,rfl,hnext,rfl⟩;((repeat (first|exact qg|refine qn ?_|refine qS ?_ ?_));all_goals (apply xi;omega))
 obtain rfl:i = s.length:=by omega
 rw [show (s.length:Int) - 1 - (s.length:Int) = -1 from by omega]
 repeat' (first|refine qm ?_|fail|((first|refine xsC ?_ ?_);all_goals (intro hc;have hp:=hc;try simp at hp;try (exfalso;omega)))|refine qO ?_ ?_)
 all_goals try (exfalso;omega)
 apply jL
 rfl
 have:c ∉ s:=by simpa using hsofar
 exact (vV this).symm
theorem qdp (s:qQ) (c:UInt8) (hs:s.length ≤ 9223372036854775807):yO C.P 111 [.v (str s),.v (.int .u8 (c.toNat:Int))] (.v (.int .i64 (j9 c s))):=by
 refine qa Tryz.func111 rfl _ Tryz.ntmps111 (Nat.le_of_ble_eq_true rfl) _ Tryz.results111 0 rfl rfl ?_
 repeat' (first|refine qm ?_|(first|refine jc Tryz.func132 (qeQ s c hs ..) ?_)|((first|refine xsC ?_ ?_);all_goals (intro hc;have hp:=hc;try simp at hp;try (exfalso;omega)))|refine qO ?_ ?_)
 apply jL
 rfl
 rfl
theorem qbC (s:qQ) (hs:s.length ≤ 9223372036854775800):yO C.P 110 [.v (str s)] (.tup [.v (str (qG s)),.v (str (qY s))]):=by
 have hl:=qdp s 47 (by omega)
 have hbd:=wA 47 s
 have hpd:qG s = s.take (j9 47 s).toNat:=rfl
 have hld:qY s = s.drop (j9 47 s + 1).toNat:=rfl
 generalize j9 47 s = k at hl hbd hpd hld
 refine qa Tryz.func110 rfl _ Tryz.ntmps110 (Nat.le_of_ble_eq_true rfl) _ Tryz.results110 0 rfl rfl ?_
 repeat' (first|refine qm ?_|(first|refine jc Tryz.func111 (hl ..) ?_|(apply qf;apply YA;(case hx=>rfl);(case hy=>rfl);(case hN=>exact nle rfl))|(apply qf;apply jm (a:=0) (b:=k.toNat);(case hx=>rfl);(case hT=>rfl);(case he=>rfl);(case ha=>rfl);(case hb=>exact ⟨_,rfl⟩);(case hab=>(first|omega|(simp;done)|(simp only [List.length_cons,List.length_nil,List.length_map];omega)|(simp;omega)));(case hbl=>(first|omega|(simp;done)|(simp only [List.length_cons,List.length_nil,List.length_map];omega)|(simp;omega)));(case hN=>exact nle rfl))|(apply qf;apply jm (a:=(k + 1).toNat) (b:=s.length);(case hx=>rfl);(case hT=>rfl);(case he=>rfl);(case ha=>exact ⟨_,xi (by omega)⟩);(case hb=>rfl);(case hab=>(first|omega|(simp;done)|(simp only [List.length_cons,List.length_nil,List.length_map];omega)|(simp;omega)));(case hbl=>(first|omega|(simp;done)|(simp only [List.length_cons,List.length_nil,List.length_map];omega)|(simp;omega)));(case hN=>exact nle rfl)))|((first|refine xsC ?_ ?_);all_goals (intro hc;have hp:=hc;try simp at hp;try (exfalso;omega)))|refine qO ?_ ?_)
 all_goals try (exfalso;omega)
 (refine yP (rs:=[.tmp 2,.tmp 3]) ?_;(repeat' (first|exact q5|apply qH|exact q8 rfl|exact yn|exact zA|apply jR|apply yL|apply jJ|apply yJ|apply ya|apply yK|refine zi ?_|apply va));all_goals (first|exact hpd.symm|(rw [hld,List.take_length])))
theorem qdo (p n:qQ) (hp:p.length ≤ 140737488355328) (hn:n.length ≤ 1407374883553280):yO C.P 113 [.v (str p),.v (str n)] (.v (str (zM p n))):=by
 refine qa Tryz.func113 rfl _ Tryz.ntmps113 (Nat.le_of_ble_eq_true rfl) _ Tryz.results113 0 rfl rfl ?_
 repeat' (first|refine qm ?_|fail|((first|refine xsC ?_ ?_);all_goals (intro hc;have hp:=hc;try simp at hp;try (exfalso;omega)))|refine qO ?_ ?_)
 · (refine yP (rs:=[.tmp 4]) ?_;(repeat' (first|exact q5|apply qH|exact q8 rfl|exact yn|exact zA|apply jR|apply yL|apply jJ|apply yJ|apply ya|apply yK|refine zi ?_|apply va));all_goals (simp_all [zM]))
 · (refine yP (rs:=[.tmp 4]) ?_;(repeat' (first|exact q5|apply qH|exact q8 rfl|exact yn|exact zA|apply jR|apply yL|apply jJ|apply yJ|apply ya|apply yK|refine zi ?_|apply va));all_goals (simp_all [zM]))
end Go.Proofs.YtnhpclmbhbblbaaGreatDoor
set_option linter.unusedSimpArgs false
set_option linter.unnecessarySimpa false
set_option maxHeartbeats 1000000
namespace Go.Proofs.YtnhpclmbhbblbaaGreatDoor
open Go.Ab Go.RowKit
set_option maxRecDepth 10000
attribute [local irreducible] Awp yl jE jl Red qX Go.Ab.Fin qW Rz vl jj ji ResOk jV jz yb jv
theorem qah (q s:qQ):q.isPrefixOf s = (decide (q.length ≤ s.length) && decide (s.take q.length = q)):=by
 rw [Bool.eq_iff_iff,List.isPrefixOf_iff_prefix,Bool.and_eq_true,decide_eq_true_iff,decide_eq_true_iff,List.prefix_iff_eq_take]
 constructor
 ·intro h
  have h2:=congrArg List.length h
  rw [List.length_take] at h2
  exact ⟨by omega,h.symm⟩
 ·rintro ⟨_,h⟩;exact h.symm
theorem qcb (s q:qQ):yO C.P 153 [.v (str s),.v (str q)] (.v (.bool (q.isPrefixOf s))):=by
 have hpt:=qah q s
 refine qa Tryz.func153 rfl _ Tryz.ntmps153 (Nat.le_of_ble_eq_true rfl) _ Tryz.results153 0 rfl rfl ?_
 repeat' (first|refine qm ?_|(first|(apply qf;apply jm (a:=0) (b:=q.length);(case hx=>rfl);(case hT=>rfl);(case he=>rfl);(case ha=>rfl);(case hb=>exact ⟨_,rfl⟩);(case hab=>(first|omega|(simp;done)|(simp only [List.length_cons,List.length_nil,List.length_map];omega)|(simp;omega)));(case hbl=>(first|omega|(simp;done)|(simp only [List.length_cons,List.length_nil,List.length_map];omega)|(simp;omega)));(case hN=>exact nle rfl)))|((first|refine qd ?_ ?_|refine qc ?_ ?_|refine xsC ?_ ?_);all_goals (intro hc;have hp:=hc;try simp at hp;try (exfalso;omega)))|refine qO ?_ ?_)
 all_goals try (exfalso;omega)
 ·apply jB
  rfl
  have:q.length ≤ s.length:=by omega
  rw [hpt];simp [this]
 ·apply jB
  rfl
  have:¬ q.length ≤ s.length:=by omega
  rw [hpt];simp [this]
theorem qdr (s q:qQ):yO C.P 128 [.v (str s),.v (str q)] (.v (.bool (q.isPrefixOf s))):=by
 refine qa Tryz.func128 rfl _ Tryz.ntmps128 (Nat.le_of_ble_eq_true rfl) _ Tryz.results128 0 rfl rfl ?_
 repeat' (first|refine qm ?_|(first|refine jc Tryz.func153 (qcb s q ..) ?_)|((first|refine xsC ?_ ?_);all_goals (intro hc;have hp:=hc;try simp at hp;try (exfalso;omega)))|refine qO ?_ ?_)
 apply jB
 rfl
 rfl
theorem qaH (p q:qQ) (hq:q.length ≤ 140737488355328):yO C.P 104 [.v (str p),.v (str q)] (.v (.bool (inB p q))):=by
 have hpr:=qdr p (q ++ [47])
 refine qa Tryz.func104 rfl _ Tryz.ntmps104 (Nat.le_of_ble_eq_true rfl) _ Tryz.results104 0 rfl rfl ?_
 repeat' (first|refine qm ?_|(first|refine jc Tryz.func128 (hpr ..) ?_)|((first|refine qd ?_ ?_|refine qc ?_ ?_|refine xsC ?_ ?_);all_goals (intro hc;have hp:=hc;try simp at hp;try (exfalso;omega)))|refine qO ?_ ?_)
 all_goals (apply jB;rfl;simp_all [inB])
theorem KP (p:qQ):xb [p] = qy p:=by
 simp only [xb];split<;>simp_all
theorem Wf (p:qQ) (hp:p.length ≤ 140737488355328):yO C.P 109 [.sl false [[.v (str p)]]] (.v (.int .i64 (qy p))):=by
 have:=qby [p] (by simp) (by simpa using hp)
 rw [KP] at this
 exact this
theorem Vw (p:qQ) (hp:p.length ≤ 140737488355328):yO C.P 119 [.v (str p)] (.v (.int .i64 (qy p))):=by
 have hch:=Wf p hp
 refine qa Tryz.func119 rfl _ Tryz.ntmps119 (Nat.le_of_ble_eq_true rfl) _ Tryz.results119 0 rfl rfl ?_
 repeat' (first|refine qm ?_|(first|(refine jM ?_)|refine xsQ Tryz.func109 (hch ..) ?_)|((first|refine xsC ?_ ?_);all_goals (intro hc;have hp:=hc;try simp at hp;try (exfalso;omega)))|refine qO ?_ ?_)
 apply jL
 rfl
 rfl
def JP (e:Int) (s:qQ):qQ:=if e = 0 then s else []
def v6 (p f t:qQ):Int:=if xb [p,f,t] = 0 then (if inB p f then (if jZ (t ++ p.drop f.length) then 2 else 0) else 5) else xb [p,f,t]
theorem qfk {p f:qQ} (h:inB p f = true):f.length ≤ p.length:=by
 simp only [inB,Bool.or_eq_true,decide_eq_true_eq,List.isPrefixOf_iff_prefix] at h
 rcases h with rfl|h
 ·exact Nat.le_refl _
 ·have:=h.length_le;simp at this;omega
theorem qbB (p f t:qQ) (hp:p.length ≤ 140737488355328) (hf:f.length ≤ 140737488355328) (ht:t.length ≤ 140737488355328):yO C.P 124 [.v (str p),.v (str f),.v (str t)] (.tup [.v (str (JP (v6 p f t) (t ++ p.drop f.length))),.v (.int .i64 (v6 p f t))]):=by
 have hch:yO C.P 109 [.sl false [[.v (str p)],[.v (str f)],[.v (str t)]]] (.v (.int .i64 (xb [p,f,t]))):=qby [p,f,t] (by simp) (by simpa using ⟨hp,hf,ht⟩)
 have hi:=qaH p f hf
 have hg:=qbz (t ++ p.drop f.length)
 have hln := @qfk p f
 have htk:p.take p.length = p:=List.take_length
 cases hb:inB p f with
 | false =>
   rw [hb] at hi
   refine qa Tryz.func124 rfl _ Tryz.ntmps124 (Nat.le_of_ble_eq_true rfl) _ Tryz.results124 0 rfl rfl ?_
   repeat' (first|refine qm ?_|(first|(refine jM ?_)|refine xsQ Tryz.func109 (hch ..) ?_|refine jc Tryz.func104 (hi ..) ?_)|((first|refine xsC ?_ ?_);all_goals (intro hc;have hp:=hc;try simp at hp;try (exfalso;omega)))|refine qO ?_ ?_)
   all_goals ((refine yP (rs:=[.tmp 6,.tmp 7]) ?_;(repeat' (first|exact q5|apply qH|exact q8 rfl|exact yn|exact zA|apply jR|apply yL|apply jJ|apply yJ|apply ya|apply yK|refine zi ?_|apply va));all_goals (simp_all [JP,v6])))
 | true =>
   rw [hb] at hi
   have hfl:=hln hb
   have hdl:(p.drop f.length).length ≤ p.length:=by simp
   refine qa Tryz.func124 rfl _ Tryz.ntmps124 (Nat.le_of_ble_eq_true rfl) _ Tryz.results124 0 rfl rfl ?_
   repeat' (first|refine qm ?_|(first|(refine jM ?_)|refine xsQ Tryz.func109 (hch ..) ?_|refine jc Tryz.func104 (hi ..) ?_|(apply qf;apply jm (a:=f.length) (b:=p.length);(case hx=>rfl);(case hT=>rfl);(case he=>rfl);(case ha=>exact ⟨_,rfl⟩);(case hb=>rfl);(case hab=>(first|omega|(simp;done)|(simp only [List.length_cons,List.length_nil,List.length_map];omega)|(simp;omega)));(case hbl=>(first|omega|(simp;done)|(simp only [List.length_cons,List.length_nil,List.length_map];omega)|(simp;omega)));(case hN=>exact nle rfl))|(apply jT Tryz.func114 rfl rfl;intro hIsFn;refine qfA hIsFn ((htk.symm ▸ hg) ..) ?_;skip))|((first|refine xsC ?_ ?_);all_goals (intro hc;have hp:=hc;try simp at hp;try (exfalso;omega)))|refine qO ?_ ?_)
   all_goals ((refine yP (rs:=[.tmp 6,.tmp 7]) ?_;(repeat' (first|exact q5|apply qH|exact q8 rfl|exact yn|exact zA|apply jR|apply yL|apply jJ|apply yJ|apply ya|apply yK|refine zi ?_|apply va));all_goals (simp_all [JP,v6])))
end Go.Proofs.YtnhpclmbhbblbaaGreatDoor
set_option linter.unusedSimpArgs false
set_option linter.unnecessarySimpa false
set_option maxHeartbeats 1000000
namespace Go.Proofs.YtnhpclmbhbblbaaGreatDoor
open Go.Ab Go.RowKit
set_option maxRecDepth 10000
attribute [local irreducible] Awp yl jE jl Red qX Go.Ab.Fin qW Rz vl jj ji ResOk jV jz yb jv
def digs1:qQ:=[48,49,50,51,52,53,54,55,56,57,97,98,99,100,101,102,103,104,105,106,107,108,109,110,111,112,113,114,115,116,117,118,119,120,121,122]
def digs2:qQ:=[48,48,48,49,48,50,48,51,48,52,48,53,48,54,48,55,48,56,48,57,49,48,49,49,49,50,49,51,49,52,49,53,49,54,49,55,49,56,49,57,50,48,50,49,50,50,50,51,50,52,50,53,50,54,50,55,50,56,50,57,51,48,51,49,51,50,51,51,51,52,51,53,51,54,51,55,51,56,51,57,52,48,52,49,52,50,52,51,52,52,52,53,52,54,52,55,52,56,52,57,53,48,53,49,53,50,53,51,53,52,53,53,53,54,53,55,53,56,53,57,54,48,54,49,54,50,54,51,54,52,54,53,54,54,54,55,54,56,54,57,55,48,55,49,55,50,55,51,55,52,55,53,55,54,55,55,55,56,55,57,56,48,56,49,56,50,56,51,56,52,56,53,56,54,56,55,56,56,56,57,57,48,57,49,57,50,57,51,57,52,57,53,57,54,57,55,57,56,57,57]
theorem qdP : ∀ k:Fin 10,(digs1.take (k.val + 1)).drop k.val = ko (k.val:Int):=by decide +kernel
theorem qdQ : ∀ k:Fin 100,10 ≤ k.val → (digs2.take (2 * k.val + 2)).drop (2 * k.val) = ko (k.val:Int):=by decide +kernel
theorem qeT (k:Nat) (hk:k < 100):yO C.P 154 [.v (.int .i64 (k:Int))] (.v (str (ko (k:Int)))):=by
 have h1:=fun h:k < 10=>qdP ⟨k,h⟩
 have h2:=qdQ ⟨k,hk⟩
 simp only at h1 h2
 have l1:digs1.length = 36:=rfl
 have l2:digs2.length = 200:=rfl
 refine qa Tryz.func154 rfl _ Tryz.ntmps154 (Nat.le_of_ble_eq_true rfl) _ Tryz.results154 0 rfl rfl ?_
 repeat' (first|refine qm ?_|(first|(apply qf;apply jm (l:=digs1) (a:=k) (b:=k + 1);(case hx=>rfl);(case hT=>rfl);(case he=>rfl);(case ha=>exact ⟨_,rfl⟩);(case hb=>exact ⟨_,rfl⟩);(case hab=>omega);(case hbl=>omega);(case hN=>exact nle rfl))|(apply qf;apply qgz;rfl;rfl;omega;omega;exact nle rfl)|(apply qf;apply jm (l:=digs2) (a:=2 * k) (b:=2 * k + 2);(case hx=>rfl);(case hT=>rfl);(case he=>rfl);(case ha=>exact ⟨_,xi (by omega)⟩);(case hb=>exact ⟨_,xi (by omega)⟩);(case hab=>omega);(case hbl=>omega);(case hN=>exact nle rfl)))|((first|refine xsC ?_ ?_);all_goals (intro hc;have hp:=hc;try simp at hp;try (exfalso;omega)))|refine qO ?_ ?_)
 · (refine yP (rs:=[.tmp 2]) ?_;(repeat' (first|exact q5|apply qH|exact q8 rfl|exact yn|exact zA|apply jR|apply yL|apply jJ|apply yJ|apply ya|apply yK|refine zi ?_|apply va));all_goals exact h1 (by omega))
 · (refine yP (rs:=[.tmp 2]) ?_;(repeat' (first|exact q5|apply qH|exact q8 rfl|exact yn|exact zA|apply jR|apply yL|apply jJ|apply yJ|apply ya|apply yK|refine zi ?_|apply va));all_goals exact h2 (by omega))
theorem qdj (k:Nat) (hk:k < 100):yO C.P 129 [.v (.int .i64 (k:Int)),.v (.int .i64 10)] (.v (str (ko (k:Int)))):=by
 have hs:=qeT k hk
 refine qa Tryz.func129 rfl _ Tryz.ntmps129 (Nat.le_of_ble_eq_true rfl) _ Tryz.results129 0 rfl rfl ?_
 repeat' (first|refine qm ?_|(first|refine jc Tryz.func154 (hs ..) ?_)|((first|refine qd ?_ ?_|refine qc ?_ ?_|refine xsC ?_ ?_);all_goals (intro hc;have hp:=hc;try simp at hp;try (exfalso;omega)))|refine qO ?_ ?_)
 all_goals try (exfalso;omega)
 (exact xE (rs:=[.tmp 4]))
theorem qeP (k:Nat) (hk:k < 100):yO C.P 106 [.v (.int .i64 (k:Int))] (.v (str (ko (k:Int)))):=by
 have hs:=qdj k hk
 refine qa Tryz.func106 rfl _ Tryz.ntmps106 (Nat.le_of_ble_eq_true rfl) _ Tryz.results106 0 rfl rfl ?_
 repeat' (first|refine qm ?_|(first|refine jc Tryz.func129 (hs ..) ?_)|((first|refine xsC ?_ ?_);all_goals (intro hc;have hp:=hc;try simp at hp;try (exfalso;omega)))|refine qO ?_ ?_)
 (exact xE (rs:=[.tmp 2]))
theorem qeO (k:Nat) (hk:k < 100):yO C.P 81 [.v (.int .i64 (k:Int))] (.v (str (ko (k:Int)))):=by
 have hs:=qeP k hk
 refine qa Tryz.func81 rfl _ Tryz.ntmps81 (Nat.le_of_ble_eq_true rfl) _ Tryz.results81 0 rfl rfl ?_
 repeat' (first|refine qm ?_|(first|refine jc Tryz.func106 (hs ..) ?_)|((first|refine xsC ?_ ?_);all_goals (intro hc;have hp:=hc;try simp at hp;try (exfalso;omega)))|refine qO ?_ ?_)
 (exact xE (rs:=[.tmp 2]))
theorem Z4 {u:qQ} (h:u ≠ []) : ∃ v c,u = v ++ [c] ∧ u[u.length - 1]? = some c ∧ u.take (u.length - 1) = v:=by
 refine ⟨u.dropLast,u.getLast h,(List.dropLast_concat_getLast h).symm,?_,by rw [List.dropLast_eq_take]⟩
 rw [List.getLast_eq_getElem,List.getElem?_eq_getElem (by have:=List.length_pos_iff.2 h;omega)]
theorem qeU (s:qQ) (hs:s.length ≤ 140737488355328):yO C.P 133 [.v (str s),.v (.int .u8 32)] (.v (str (zh s))):=by
 refine qa Tryz.func133 rfl _ Tryz.ntmps133 (Nat.le_of_ble_eq_true rfl) _ Tryz.results133 0 rfl rfl ?_
 repeat' (first|refine qm ?_|fail|((first|refine qd ?_ ?_|refine qc ?_ ?_|refine xsC ?_ ?_);all_goals (intro hc;have hp:=hc;try simp at hp;try (exfalso;omega)))|refine qO ?_ ?_)
 (refine Awp.red (qv (ts:=[(0,.v (str (s.take (s.length - 0)))),(1,.v (.int .u8 32))]) ?_) ?_;((repeat (first|exact qg|refine qn ?_|refine qS ?_ ?_))))
 all_goals try (simp;done)
 refine qP (fun n σ => ∃ i:Nat,i ≤ s.length ∧ n = s.length - i ∧ (zh s = zh (s.take (s.length - i))) ∧ σ = ⟨[(0,.v (str (s.take (s.length - i)))),(1,.v (.int .u8 32))],[],C.nh⟩) s.length ⟨0,Nat.zero_le _,rfl,(by simp),rfl⟩ ?_
 rintro n σ ⟨i,hi,rfl,hsofar,rfl⟩
 have hul:(s.take (s.length - i)).length = s.length - i:=by simp
 by_cases hlt:i < s.length
 ·have hnx:(s.take (s.length - i)).take ((s.take (s.length - i)).length - 1) = s.take (s.length - (i + 1)):=by rw [hul,List.take_take];congr 1;omega
  generalize s.take (s.length - i) = u at hul hsofar hnx ⊢
  have hne:u ≠ []:=fun e=>by subst e;simp at hul;omega
  obtain ⟨v,c,huv,hch,hv⟩:=Z4 hne
  have htr:=Yk v c
  rw [← huv] at htr
  repeat' (first|refine qm ?_|(first|(apply qf;apply vc (i:=u.length - 1);(case hx=>rfl);(case hy=>exact xi (by omega));(case hT=>rfl);(case he=>rfl);(case hc=>exact hch);(case hN=>exact nle rfl))|(apply qf;apply jm (a:=0) (b:=u.length - 1);(case hx=>rfl);(case hT=>rfl);(case he=>rfl);(case ha=>rfl);(case hb=>exact ⟨_,xi (by omega)⟩);(case hab=>(first|omega|(simp;done)|(simp only [List.length_cons,List.length_nil,List.length_map];omega)|(simp;omega)));(case hbl=>(first|omega|(simp;done)|(simp only [List.length_cons,List.length_nil,List.length_map];omega)|(simp;omega)));(case hN=>exact nle rfl)))|((first|refine qd ?_ ?_|refine qc ?_ ?_|refine xsC ?_ ?_);all_goals (intro hc;have hp:=hc;try simp at hp;try (exfalso;omega)))|refine qO ?_ ?_)
  all_goals try (exfalso;omega)
  all_goals try (exfalso;exact hne (by assumption))
  ·have hc32:c = 32:=UInt8.toNat.inj (by show c.toNat = 32;omega)
   rw [if_pos hc32] at htr
   have hcond:zh s = zh (s.take (s.length - (i + 1))):=by rw [hsofar,htr, ← hnx,hv]
   refine ⟨s.length - (i + 1),_,by omega,qv (ts:=[(0,.v (str (s.take (s.length - (i + 1))))),(1,.v (.int .u8 32))]) ?_,i + 1,by omega,rfl,hcond,rfl⟩;((repeat (first|exact qg|refine qn ?_|refine qS ?_ ?_));all_goals (rw [← hnx];rfl))
  ·have hc32:¬ c = 32:=fun e=>by subst e;simp at hp
   rw [if_neg hc32] at htr
   (refine yP (rs:=[.tmp 4]) ?_;(repeat' (first|exact q5|apply qH|exact q8 rfl|exact yn|exact zA|apply jR|apply yL|apply jJ|apply yJ|apply ya|apply yK|refine zi ?_|apply va));all_goals (rw [hsofar,htr]))
 obtain rfl:i = s.length:=by omega
 simp only [Nat.sub_self,List.take_zero] at hsofar ⊢
 repeat' (first|refine qm ?_|fail|((first|refine qd ?_ ?_|refine qc ?_ ?_|refine xsC ?_ ?_);all_goals (intro hc;have hp:=hc;try simp at hp;try (exfalso;omega)))|refine qO ?_ ?_)
 all_goals try (exfalso;omega)
 (refine yP (rs:=[.tmp 4]) ?_;(repeat' (first|exact q5|apply qH|exact q8 rfl|exact yn|exact zA|apply jR|apply yL|apply jJ|apply yJ|apply ya|apply yK|refine zi ?_|apply va));all_goals (rw [hsofar];rfl))
theorem qgu (s:qQ) (hs:s.length ≤ 140737488355328):yO C.P 112 [.v (str s),.v (str [32])] (.v (str (zh s))):=by
 have hb:=qeU s hs
 refine qa Tryz.func112 rfl _ Tryz.ntmps112 (Nat.le_of_ble_eq_true rfl) _ Tryz.results112 0 rfl rfl ?_
 repeat' (first|refine qm ?_|(first|refine jc Tryz.func133 (hb ..) ?_)|((first|refine qd ?_ ?_|refine qc ?_ ?_|refine xsC ?_ ?_);all_goals (intro hc;have hp:=hc;try simp at hp;try (exfalso;omega)))|refine qO ?_ ?_)
 all_goals try (exfalso;simp_all;done)
 all_goals ((refine yP (rs:=[.tmp 4]) ?_;(repeat' (first|exact q5|apply qH|exact q8 rfl|exact yn|exact zA|apply jR|apply yL|apply jJ|apply yJ|apply ya|apply yK|refine zi ?_|apply va));all_goals (first|(have e:s = []:=(by assumption);subst e;rfl)|rfl)))
end Go.Proofs.YtnhpclmbhbblbaaGreatDoor
set_option linter.unusedSimpArgs false
set_option linter.unnecessarySimpa false
set_option maxHeartbeats 1000000
namespace Go.Proofs.YtnhpclmbhbblbaaGreatDoor
open Go.Ab Go.RowKit
set_option maxRecDepth 10000
attribute [local irreducible] Awp yl jE jl Red qX Go.Ab.Fin qW Rz vl jj ji ResOk jV jz yb jv
def vi (p:qQ) (n:Int):Int:=if qy p = 0 then (if n < 1 ∨ 99 < n then 3 else vz p n) else qy p
theorem VH (n:Int):(ko n).length ≤ 2:=by unfold ko;split<;>simp
theorem V4 (n:Int):(vo n).length ≤ 5:=by have:=VH n;simp [vo];omega
theorem XD (s:qQ):(zh s).length ≤ s.length:=by
 unfold zh
 rw [List.length_reverse]
 exact Nat.le_trans (List.dropWhile_sublist _).length_le (by simp)
theorem ZO (s:qQ):(zg s).length ≤ s.length:=by unfold zg;split<;>simp
theorem Yh (s:qQ):(vd s).length ≤ s.length:=by unfold vd;split<;>simp<;>omega
theorem ZM (s:qQ) (n:Int):(vE s n).length ≤ s.length:=by
 have:=Yh s
 unfold vE
 split
 ·refine Nat.le_trans (XD _) ?_
  rw [List.length_take];omega
 ·exact this
theorem qbx (p:qQ) (n:Int) (hp:p.length ≤ 140737488355328):yO C.P 88 [.v (str p),.v (.int .i64 n)] (.tup [.v (str (JP (vi p n) (yr p n))),.v (.int .i64 (vi p n))]):=by
 have hch:=Wf p hp
 by_cases h0:qy p = 0
 ·rw [h0] at hch
  by_cases hn:n < 1 ∨ 99 < n
  ·rw [show vi p n = 3 from by simp [vi,h0,hn]]
   refine qa Tryz.func88 rfl _ Tryz.ntmps88 (Nat.le_of_ble_eq_true rfl) _ Tryz.results88 0 rfl rfl ?_
   repeat' (first|refine qm ?_|(first|(refine jM ?_)|refine xsQ Tryz.func109 (hch ..) ?_)|((first|refine qd ?_ ?_|refine qc ?_ ?_|refine xsC ?_ ?_);all_goals (intro hc;have hp:=hc;try simp at hp;try (exfalso;omega)))|refine qO ?_ ?_)
   all_goals try (exfalso;omega)
   all_goals ((refine yP (rs:=[.tmp 4,.tmp 5]) ?_;(repeat' (first|exact q5|apply qH|exact q8 rfl|exact yn|exact zA|apply jR|apply yL|apply jJ|apply yJ|apply ya|apply yK|refine zi ?_|apply va));all_goals (simp_all [JP])))
  ·have hpe:vi p n = vz p n:=by simp [vi,h0,hn]
   rw [hpe]
   obtain ⟨k,rfl⟩ : ∃ k:Nat,n = k:=⟨n.toNat,by omega⟩
   have hit:=qeO k (by omega)
   have hsp:=qbC p (by omega)
   have hnl:(qY p).length ≤ p.length:=by simp [qY]
   have hpl:(qG p).length ≤ p.length:=by simp [qG];omega
   have hd2:=VH (k:Int)
   have hla:=qdp (qY p) 46 (by omega)
   have hbd:=wA 46 (qY p)
   have hml:=V4 (k:Int)
   have hmk : [32,40] ++ ko (k:Int) ++ [41] = vo (k:Int):=rfl
   have hel:=ZO (qY p)
   have hsl:=Yh (qY p)
   have hcl:=ZM (qY p) (k:Int)
   have hrm:zQ (qY p) (k:Int) = 20 - ((vo (k:Int)).length:Int) - ((zg (qY p)).length:Int):=rfl
   have htr:=qgu ((vd (qY p)).take (zQ (qY p) (k:Int)).toNat) (by rw [List.length_take];omega)
   have hjo:=qdo (qG p) (vE (qY p) (k:Int) ++ vo (k:Int) ++ zg (qY p)) (by omega) (by rw [List.length_append,List.length_append];omega)
   have hgr:=qbz (yr p (k:Int))
   have hj2:zM (qG p) (vE (qY p) (k:Int) ++ vo (k:Int) ++ zg (qY p)) = yr p (k:Int):=rfl
   rw [hj2] at hjo
   have hae:vz p (k:Int) = if vE (qY p) (k:Int) = [] then 2 else if jZ (yr p (k:Int)) then 2 else 0:=rfl
   have hcut:vE (qY p) (k:Int) = if zQ (qY p) (k:Int) < ((vd (qY p)).length:Int) then zh ((vd (qY p)).take (zQ (qY p) (k:Int)).toNat) else vd (qY p):=rfl
   have hse:(0 < j9 46 (qY p) → vd (qY p) = (qY p).take (j9 46 (qY p)).toNat ∧ zg (qY p) = ((qY p).take (qY p).length).drop (j9 46 (qY p)).toNat) ∧ (¬ 0 < j9 46 (qY p) → vd (qY p) = qY p ∧ zg (qY p) = []):=by
    constructor
    ·intro h;rw [List.take_length];simp [vd,zg,h]
    ·intro h;simp [vd,zg,h]
   generalize yr p (k:Int) = Q at hjo hgr hae hj2 ⊢
   generalize vz p (k:Int) = E at hae ⊢
   generalize vE (qY p) (k:Int) = Cut at hcut hae hjo hcl hj2
   generalize zQ (qY p) (k:Int) = Rm at hcut htr hrm
   generalize vd (qY p) = St at hcut htr hse hsl
   generalize zg (qY p) = En at hse hjo hel hj2 hrm
   generalize vo (k:Int) = Mk at hmk hjo hml hj2 hrm
   generalize j9 46 (qY p) = ix at hla hbd hse
   generalize qY p = nm at *
   generalize qG p = pa at *
   have hTl:(zh (St.take Rm.toNat)).length ≤ p.length:=by
    have:=XD (St.take Rm.toNat)
    rw [List.length_take] at this;omega
   generalize zh (St.take Rm.toNat) = T at htr hcut hTl
   by_cases hix:0 < ix
   ·obtain ⟨hS,hE⟩:=hse.1 hix
    clear hse
    subst hS
    subst hE
    subst hmk
    subst hrm
    cases hrr:decide (20 - ((([32,40] ++ ko (k:Int) ++ [41]:qQ)).length:Int) - (((nm.take nm.length).drop ix.toNat).length:Int) < ((nm.take ix.toNat).length:Int))
    ·rw [if_neg (of_decide_eq_false hrr)] at hcut
     subst hcut
     refine qa Tryz.func88 rfl _ Tryz.ntmps88 (Nat.le_of_ble_eq_true rfl) _ Tryz.results88 0 rfl rfl ?_
     repeat' (first|refine qm ?_|(first|(refine jM ?_)|refine xsQ Tryz.func109 (hch ..) ?_|refine xsQ Tryz.func110 (hsp ..) ?_|refine jc Tryz.func111 (hla ..) ?_|(apply qf;apply jm (a:=0) (b:=ix.toNat);(case hx=>rfl);(case hT=>rfl);(case he=>rfl);(case ha=>rfl);(case hb=>exact ⟨_,xi (by omega)⟩);(case hab=>(first|omega|(simp;done)|(simp only [List.length_cons,List.length_nil,List.length_map];omega)|(simp;omega)));(case hbl=>(first|omega|(simp;done)|(simp only [List.length_cons,List.length_nil,List.length_map];omega)|(simp;omega)));(case hN=>exact nle rfl))|(apply qf;apply jm (a:=ix.toNat) (b:=nm.length);(case hx=>rfl);(case hT=>rfl);(case he=>rfl);(case ha=>exact ⟨_,xi (by omega)⟩);(case hb=>rfl);(case hab=>(first|omega|(simp;done)|(simp only [List.length_cons,List.length_nil,List.length_map];omega)|(simp;omega)));(case hbl=>(first|omega|(simp;done)|(simp only [List.length_cons,List.length_nil,List.length_map];omega)|(simp;omega)));(case hN=>exact nle rfl))|refine jc Tryz.func81 (hit ..) ?_|(apply qf;apply YA;(case hx=>rfl);(case hy=>rfl);(case hN=>exact nle rfl))|(apply qf;apply jm (a:=0) (b:=Int.toNat _);(case hx=>rfl);(case hT=>rfl);(case he=>rfl);(case ha=>rfl);(case hb=>exact ⟨_,rfl⟩);(case hab=>(first|omega|(simp;done)|(simp only [List.length_cons,List.length_nil,List.length_map];omega)|(simp;omega)));(case hbl=>(show _ ≤ (nm.take ix.toNat).length;omega));(case hN=>exact nle rfl))|refine jc Tryz.func112 (htr ..) ?_|refine jc Tryz.func113 (hjo ..) ?_|refine jc Tryz.func114 (hgr ..) ?_|(apply qf;apply vU;rfl;rfl;(simp only [List.length_append,List.length_cons,List.length_nil];omega);exact nle rfl))|((first|refine qd ?_ ?_|refine qc ?_ ?_|refine xsC ?_ ?_);all_goals (intro hc;have hp:=hc;try simp at hp;try (exfalso;omega)))|refine qO ?_ ?_)
     all_goals try (exfalso;omega)
     all_goals ((refine yP (rs:=[.tmp 4,.tmp 5]) ?_;(repeat' (first|exact q5|apply qH|exact q8 rfl|exact yn|exact zA|apply jR|apply yL|apply jJ|apply yJ|apply ya|apply yK|refine zi ?_|apply va));all_goals (simp_all [JP])))
    ·have hr2:=of_decide_eq_true hrr
     rw [if_pos hr2] at hcut
     subst hcut
     refine qa Tryz.func88 rfl _ Tryz.ntmps88 (Nat.le_of_ble_eq_true rfl) _ Tryz.results88 0 rfl rfl ?_
     repeat' (first|refine qm ?_|(first|(refine jM ?_)|refine xsQ Tryz.func109 (hch ..) ?_|refine xsQ Tryz.func110 (hsp ..) ?_|refine jc Tryz.func111 (hla ..) ?_|(apply qf;apply jm (a:=0) (b:=ix.toNat);(case hx=>rfl);(case hT=>rfl);(case he=>rfl);(case ha=>rfl);(case hb=>exact ⟨_,xi (by omega)⟩);(case hab=>(first|omega|(simp;done)|(simp only [List.length_cons,List.length_nil,List.length_map];omega)|(simp;omega)));(case hbl=>(first|omega|(simp;done)|(simp only [List.length_cons,List.length_nil,List.length_map];omega)|(simp;omega)));(case hN=>exact nle rfl))|(apply qf;apply jm (a:=ix.toNat) (b:=nm.length);(case hx=>rfl);(case hT=>rfl);(case he=>rfl);(case ha=>exact ⟨_,xi (by omega)⟩);(case hb=>rfl);(case hab=>(first|omega|(simp;done)|(simp only [List.length_cons,List.length_nil,List.length_map];omega)|(simp;omega)));(case hbl=>(first|omega|(simp;done)|(simp only [List.length_cons,List.length_nil,List.length_map];omega)|(simp;omega)));(case hN=>exact nle rfl))|refine jc Tryz.func81 (hit ..) ?_|(apply qf;apply YA;(case hx=>rfl);(case hy=>rfl);(case hN=>exact nle rfl))|(apply qf;apply jm (a:=0) (b:=Int.toNat _);(case hx=>rfl);(case hT=>rfl);(case he=>rfl);(case ha=>rfl);(case hb=>exact ⟨_,rfl⟩);(case hab=>(first|omega|(simp;done)|(simp only [List.length_cons,List.length_nil,List.length_map];omega)|(simp;omega)));(case hbl=>(show _ ≤ (nm.take ix.toNat).length;omega));(case hN=>exact nle rfl))|refine jc Tryz.func112 (htr ..) ?_|refine jc Tryz.func113 (hjo ..) ?_|refine jc Tryz.func114 (hgr ..) ?_|(apply qf;apply vU;rfl;rfl;(simp only [List.length_append,List.length_cons,List.length_nil];omega);exact nle rfl))|((first|refine qd ?_ ?_|refine qc ?_ ?_|refine xsC ?_ ?_);all_goals (intro hc;have hp:=hc;try simp at hp;try (exfalso;omega)))|refine qO ?_ ?_)
     all_goals try (exfalso;omega)
     all_goals ((refine yP (rs:=[.tmp 4,.tmp 5]) ?_;(repeat' (first|exact q5|apply qH|exact q8 rfl|exact yn|exact zA|apply jR|apply yL|apply jJ|apply yJ|apply ya|apply yK|refine zi ?_|apply va));all_goals (simp_all [JP])))
   ·obtain ⟨hS,hE⟩:=hse.2 hix
    clear hse
    have hS':=hS.symm
    subst hS'
    subst hE
    subst hmk
    subst hrm
    cases hrr:decide (20 - ((([32,40] ++ ko (k:Int) ++ [41]:qQ)).length:Int) - (([]:qQ).length:Int) < ((nm).length:Int))
    ·rw [if_neg (of_decide_eq_false hrr)] at hcut
     subst hcut
     refine qa Tryz.func88 rfl _ Tryz.ntmps88 (Nat.le_of_ble_eq_true rfl) _ Tryz.results88 0 rfl rfl ?_
     repeat' (first|refine qm ?_|(first|(refine jM ?_)|refine xsQ Tryz.func109 (hch ..) ?_|refine xsQ Tryz.func110 (hsp ..) ?_|refine jc Tryz.func111 (hla ..) ?_|(apply qf;apply jm (a:=0) (b:=ix.toNat);(case hx=>rfl);(case hT=>rfl);(case he=>rfl);(case ha=>rfl);(case hb=>exact ⟨_,xi (by omega)⟩);(case hab=>(first|omega|(simp;done)|(simp only [List.length_cons,List.length_nil,List.length_map];omega)|(simp;omega)));(case hbl=>(first|omega|(simp;done)|(simp only [List.length_cons,List.length_nil,List.length_map];omega)|(simp;omega)));(case hN=>exact nle rfl))|(apply qf;apply jm (a:=ix.toNat) (b:=nm.length);(case hx=>rfl);(case hT=>rfl);(case he=>rfl);(case ha=>exact ⟨_,xi (by omega)⟩);(case hb=>rfl);(case hab=>(first|omega|(simp;done)|(simp only [List.length_cons,List.length_nil,List.length_map];omega)|(simp;omega)));(case hbl=>(first|omega|(simp;done)|(simp only [List.length_cons,List.length_nil,List.length_map];omega)|(simp;omega)));(case hN=>exact nle rfl))|refine jc Tryz.func81 (hit ..) ?_|(apply qf;apply YA;(case hx=>rfl);(case hy=>rfl);(case hN=>exact nle rfl))|(apply qf;apply jm (a:=0) (b:=Int.toNat _);(case hx=>rfl);(case hT=>rfl);(case he=>rfl);(case ha=>rfl);(case hb=>exact ⟨_,rfl⟩);(case hab=>(first|omega|(simp;done)|(simp only [List.length_cons,List.length_nil,List.length_map];omega)|(simp;omega)));(case hbl=>omega);(case hN=>exact nle rfl))|refine jc Tryz.func112 (htr ..) ?_|refine jc Tryz.func113 (hjo ..) ?_|refine jc Tryz.func114 (hgr ..) ?_|(apply qf;apply vU;rfl;rfl;(simp only [List.length_append,List.length_cons,List.length_nil];omega);exact nle rfl))|((first|refine qd ?_ ?_|refine qc ?_ ?_|refine xsC ?_ ?_);all_goals (intro hc;have hp:=hc;try simp at hp;try (exfalso;omega)))|refine qO ?_ ?_)
     all_goals try (exfalso;omega)
     all_goals ((refine yP (rs:=[.tmp 4,.tmp 5]) ?_;(repeat' (first|exact q5|apply qH|exact q8 rfl|exact yn|exact zA|apply jR|apply yL|apply jJ|apply yJ|apply ya|apply yK|refine zi ?_|apply va));all_goals (simp_all [JP])))
    ·have hr2:=of_decide_eq_true hrr
     rw [if_pos hr2] at hcut
     subst hcut
     refine qa Tryz.func88 rfl _ Tryz.ntmps88 (Nat.le_of_ble_eq_true rfl) _ Tryz.results88 0 rfl rfl ?_
     repeat' (first|refine qm ?_|(first|(refine jM ?_)|refine xsQ Tryz.func109 (hch ..) ?_|refine xsQ Tryz.func110 (hsp ..) ?_|refine jc Tryz.func111 (hla ..) ?_|(apply qf;apply jm (a:=0) (b:=ix.toNat);(case hx=>rfl);(case hT=>rfl);(case he=>rfl);(case ha=>rfl);(case hb=>exact ⟨_,xi (by omega)⟩);(case hab=>(first|omega|(simp;done)|(simp only [List.length_cons,List.length_nil,List.length_map];omega)|(simp;omega)));(case hbl=>(first|omega|(simp;done)|(simp only [List.length_cons,List.length_nil,List.length_map];omega)|(simp;omega)));(case hN=>exact nle rfl))|(apply qf;apply jm (a:=ix.toNat) (b:=nm.length);(case hx=>rfl);(case hT=>rfl);(case he=>rfl);(case ha=>exact ⟨_,xi (by omega)⟩);(case hb=>rfl);(case hab=>(first|omega|(simp;done)|(simp only [List.length_cons,List.length_nil,List.length_map];omega)|(simp;omega)));(case hbl=>(first|omega|(simp;done)|(simp only [List.length_cons,List.length_nil,List.length_map];omega)|(simp;omega)));(case hN=>exact nle rfl))|refine jc Tryz.func81 (hit ..) ?_|(apply qf;apply YA;(case hx=>rfl);(case hy=>rfl);(case hN=>exact nle rfl))|(apply qf;apply jm (a:=0) (b:=Int.toNat _);(case hx=>rfl);(case hT=>rfl);(case he=>rfl);(case ha=>rfl);(case hb=>exact ⟨_,rfl⟩);(case hab=>(first|omega|(simp;done)|(simp only [List.length_cons,List.length_nil,List.length_map];omega)|(simp;omega)));(case hbl=>omega);(case hN=>exact nle rfl))|refine jc Tryz.func112 (htr ..) ?_|refine jc Tryz.func113 (hjo ..) ?_|refine jc Tryz.func114 (hgr ..) ?_|(apply qf;apply vU;rfl;rfl;(simp only [List.length_append,List.length_cons,List.length_nil];omega);exact nle rfl))|((first|refine qd ?_ ?_|refine qc ?_ ?_|refine xsC ?_ ?_);all_goals (intro hc;have hp:=hc;try simp at hp;try (exfalso;omega)))|refine qO ?_ ?_)
     all_goals try (exfalso;omega)
     all_goals ((refine yP (rs:=[.tmp 4,.tmp 5]) ?_;(repeat' (first|exact q5|apply qH|exact q8 rfl|exact yn|exact zA|apply jR|apply yL|apply jJ|apply yJ|apply ya|apply yK|refine zi ?_|apply va));all_goals (simp_all [JP])))
 ·rw [show vi p n = qy p from by simp [vi,h0]]
  refine qa Tryz.func88 rfl _ Tryz.ntmps88 (Nat.le_of_ble_eq_true rfl) _ Tryz.results88 0 rfl rfl ?_
  repeat' (first|refine qm ?_|(first|(refine jM ?_)|refine xsQ Tryz.func109 (hch ..) ?_)|((first|refine qd ?_ ?_|refine qc ?_ ?_|refine xsC ?_ ?_);all_goals (intro hc;have hp:=hc;try simp at hp;try (exfalso;omega)))|refine qO ?_ ?_)
  all_goals try (exfalso;omega)
  all_goals ((refine yP (rs:=[.tmp 4,.tmp 5]) ?_;(repeat' (first|exact q5|apply qH|exact q8 rfl|exact yn|exact zA|apply jR|apply yL|apply jJ|apply yJ|apply ya|apply yK|refine zi ?_|apply va));all_goals (simp_all [JP])))
end Go.Proofs.YtnhpclmbhbblbaaGreatDoor
