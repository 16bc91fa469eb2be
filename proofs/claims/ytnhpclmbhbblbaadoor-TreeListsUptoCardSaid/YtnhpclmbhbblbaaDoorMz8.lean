import Derived.Test.YtnhpclmbhbblbaaDoorMz7
import Derived.RangeFuncNested
import Derived.RangeFuncBound
import Derived.RangeFuncCalls
import Derived.RangeFuncLeaves
import Derived.Shelf.Abstract
import Derived.Shelf.RegionOpen
import Derived.WalkKit
import Derived.OwnWalkIn
import Derived.TacticsInMore
import Derived.LoopNIn
import Derived.LoopIn
import Derived.Test.YtnhpclmbhbblbaaDoorMz6
import Derived.Test.YtnhpclmbhbblbaaDoorMz1
set_option linter.unusedSimpArgs false
set_option linter.unnecessarySimpa false
namespace Go.Proofs.YtnhpclmbhbblbaaDoor
open Go.Ab Go.RowKit Go.Shelf
set_option maxRecDepth 10000
attribute [local go_sem] Oper.semAt_some
abbrev jQ (s:qv):Value := .string ⟨s.toArray⟩
abbrev vZ (b:Nat):Value := .pointer (some ⟨b,0,none⟩)
theorem Qx (p:qv) (w:World):Calls Tryd.prog 61 #[jQ p,jQ yP,.int .i64 0] w fun e w' =>
  e = .returned (.func (.func 76) #[] #[vZ (w.heap.size + 1),vZ w.heap.size,vZ (w.heap.size + 2)]) ∧ w' = ((w.alloc (.cells #[jQ p] 9)).alloc (.cells #[jQ yP] 9)).alloc (.cells #[.int .i64 0] 3):=by
 go_enter Tryd.func61,Tryd.ntmps61
 go_wp2
 go_ret
 refine ⟨rfl,rfl⟩
theorem w5 (p:qv) (w:World):Calls Tryd.prog 42 #[jQ p,jQ yP] w fun e w' =>
  e = .returned (.func (.func 76) #[] #[vZ (w.heap.size + 1),vZ w.heap.size,vZ (w.heap.size + 2)]) ∧ w' = ((w.alloc (.cells #[jQ p] 9)).alloc (.cells #[jQ yP] 9)).alloc (.cells #[.int .i64 0] 3):=by
 go_enter Tryd.func42,Tryd.ntmps42
 go_wp2_with (go_at_call 61;refine (Qx _ _).mono ?_;rintro e w' ⟨rfl,rfl⟩)
 go_ret
 refine ⟨rfl,rfl⟩
theorem wk (s:qv) (c:UInt8) (w:World):Calls Tryd.prog 79 #[jQ s,.int .u8 (c.toNat:Int)] w fun e w'=>e = .returned (.int .i64 (Lib.indexByte s c)) ∧ w' = w:=by
 go_enter Tryd.func79,Tryd.ntmps79
 go_wp2
 rw [run_callFunc_extern Tryd.func90 (by kernel_rfl) (by kernel_rfl) (by kernel_rfl) (e:=Extern.BytealgIndexByte.indexByte) (by kernel_rfl),Lib.run_indexByteString]
 simp only [Result.andThen]
 rw [Oper.upon_value]
 go_wp2
 go_ret
 refine ⟨?_,rfl⟩
 simp
theorem JU (s:qv) (w:World):Calls Tryd.prog 89 #[jQ s,jQ yP] w fun e w'=>e = .returned (.int .i64 (Lib.indexByte s 47)) ∧ w' = w:=by
 show Calls _ _ #[jQ s,.string ⟨#[47]⟩] w _
 go_enter Tryd.func89,Tryd.ntmps89
 go_wp2_with (go_at_call 79;refine (wk s 47 _).mono ?_;rintro e w' ⟨rfl,rfl⟩)
 ·go_ret
  refine ⟨?_,rfl⟩
  have e:([47]:qv) = s:=by first|assumption|(simp_all;done)
  subst e
  rfl
 ·go_ret
  exact ⟨rfl,rfl⟩
theorem wI (s:qv) (w:World):Calls Tryd.prog 78 #[jQ s,jQ yP] w fun e w'=>e = .returned (.int .i64 (Lib.indexByte s 47)) ∧ w.grownBy w' none:=by
 go_enter Tryd.func78,Tryd.ntmps78
 go_wp2_with (go_at_call 89;refine (JU _ _).mono ?_;rintro e w' ⟨rfl,rfl⟩)
 go_ret
 exact ⟨rfl,⟨rfl,rfl,rfl,Nat.le_refl _,fun _ _ _=>rfl⟩⟩
theorem Jg (s:qv):(Lib.indexByte s 47 = -1 ∧ (47:UInt8) ∉ s) ∨ ∃ a b,s = a ++ 47 :: b ∧ (47:UInt8) ∉ a ∧ Lib.indexByte s 47 = a.length:=by
 induction s with
 | nil=>exact .inl ⟨rfl,by simp⟩
 | cons c s ih =>
   by_cases hc:c = 47
   ·subst hc;exact .inr ⟨[],s,rfl,by simp,by simp [Lib.indexByte]⟩
   ·rcases ih with ⟨h1,h2⟩|⟨a,b,h1,h2,h3⟩
    ·exact .inl ⟨by simp [Lib.indexByte,hc,h1],by simp only [List.mem_cons,not_or];exact ⟨fun e=>hc e.symm,h2⟩⟩
    ·refine .inr ⟨c :: a,b,by simp [h1],by simp only [List.mem_cons,not_or];exact ⟨fun e=>hc e.symm,h2⟩,?_⟩
     have:¬ Lib.indexByte s 47 = -1:=by omega
     simp [Lib.indexByte,hc,this,h3]
theorem jj {W:World} {b T:Nat} {v:Value} (h:W.heap[b]? = some (.cells #[v] T (0,0))):W.cell? ⟨b,0,none⟩ = some v ∧ W.frozen? ⟨b,0,none⟩ = false:=by simp [World.cell?,World.frozen?,h]
theorem kept {A B:World} {k:Nat} {o:Obj} (hg:A.grownBy B Option.none) (h:A.heap[k]? = some o):B.heap[k]? = some o:=(hg.block k (Array.getElem?_eq_some_iff.1 h).1 (by simp)).trans h
theorem _root_.Go.World.grownBy.weaken {A B:World} (h:A.grownBy B Option.none) (r:Option Nat):A.grownBy B r:=⟨h.os,h.tape,h.output,h.size,fun k hk _=>h.block k hk (by simp)⟩
theorem wrap64_in {x:Int} (h1:0 ≤ x) (h2:x ≤ 9223372036854775807):wrap64 x = x:=IntWalk.wrap64_in x ⟨by omega,by omega⟩
theorem ve (l:List UInt8) (a b:Nat):ByteArray.extract ⟨l.toArray⟩ a b = ⟨((l.take b).drop a).toArray⟩:=by
 have h:(ByteArray.extract ⟨l.toArray⟩ a b).data = ((l.take b).drop a).toArray:=by simp [List.drop_take]
 calc ByteArray.extract ⟨l.toArray⟩ a b = ⟨(ByteArray.extract ⟨l.toArray⟩ a b).data⟩:=rfl
  _ = _:=by rw [h]
theorem kt {W:World} {b T:Nat} {v:Value} (h:W.heap[b]? = some (.cells #[v] T (0,0))) (u:Value):(W.setCell ⟨b,0,none⟩ u).heap[b]? = some (.cells #[u] T (0,0)):=by
 obtain ⟨hlt,hb⟩:=Array.getElem?_eq_some_iff.1 h
 show (W.heap.modify b _)[b]? = _
 rw [Array.getElem?_eq_getElem (by rw [Array.size_modify];exact hlt),Array.getElem_modify_self,hb]
 rfl
theorem xh (W:World) {b k:Nat} (u:Value) (h:k ≠ b):(W.setCell ⟨b,0,none⟩ u).heap[k]? = W.heap[k]?:=Below.heap_setCell W ⟨b,0,none⟩ u k h
def Xl (S:Nat) (w:World):Nat:=match w.cell? ⟨S,0,none⟩ with|some (.string s)=>s.size|_=>0
theorem JR (n:Nat) (hn:1 ≤ n) (p:qv) (hp:p.length ≤ 140737488355328) (w0:World) (S:Nat) (h0:w0.heap[S]? = some (.cells #[jQ p] 9 (0,0))) (h1:w0.heap[S + 1]? = some (.cells #[jQ yP] 9 (0,0))) (h2:w0.heap[S + 2]? = some (.cells #[.int .i64 0] 3 (0,0))) :
  Jo Fence.wide n Tryd.prog 76 #[vZ (S + 1),vZ S,vZ (S + 2)] S (qc p) w0:=by
 intro l J Jx W hW hJ hJx hY hJ0
 have hS:W.heap[S]? = some (.cells #[jQ p] 9 (0,0)):=(hW S (by omega) (by omega)).trans h0
 have hS1:W.heap[S + 1]? = some (.cells #[jQ yP] 9 (0,0)):=(hW (S + 1) (by omega) (by omega)).trans h1
 have hS2:W.heap[S + 2]? = some (.cells #[.int .i64 0] 3 (0,0)):=(hW (S + 2) (by omega) (by omega)).trans h2
 have c1:=(jj hS1).1
 have hsl:List.length yP = 1:=rfl
 refine callsIn_of_wp Tryd.func76 rfl trivial ?_ rfl
 simp only [Tryd.ntmps76,List.size_toArray,List.length_cons,List.length_nil,Nat.reduceAdd,Nat.reduceSub,Array.replicate_succ,Array.replicate_zero,List.push_toArray,List.append_toArray,List.cons_append,List.nil_append]
 gi_wp2
 gi_loopw [7] (fun _ wr => ∃ (pre:List qv) (rest:qv),qc p = pre ++ qc rest ∧ rest.length ≤ p.length ∧ wr.heap[S]? = some (.cells #[jQ rest] 9 (0,0)) ∧ wr.heap[S + 1]? = some (.cells #[jQ yP] 9 (0,0)) ∧ wr.heap[S + 2]? = some (.cells #[.int .i64 0] 3 (0,0)) ∧ J pre wr) (fun _ wr=>Xl S wr)
 case atStart=>exact ⟨[],p,rfl,Nat.le_refl _,hS,hS1,hS2,hJ0⟩
 case round =>
  obtain ⟨pre,rest,hx,hlen,hb,hb1,hb2,hJs⟩:=hrel
  have c0:=(jj hb).1
  have c1:=(jj hb1).1
  have c2:=(jj hb2).1
  rcases Jg rest with ⟨hm,hfree⟩|⟨a,b,rfl,hfa,hi⟩
  ·have hpre:pre ++ [rest] <+: qc p:=by rw [hx,ji hfree];exact List.prefix_refl _
   gi_wp2_with (refine ⟨trivial,?_⟩;gi_at_call 78;refine (callsIn_wide.2 (wI _ _)).mono ?_;rintro e w1 ⟨rfl,hg⟩;have hd0:=kept hg hb;have hd1:=kept hg hb1;have hd2:=kept hg hb2;have d0:=(jj hd0).1;have d1:=(jj hd1).1;have d2:=(jj hd2).1;obtain ⟨fn,tmps,assign,body,hy,hR⟩:=hY pre rest w1 (hJ _ _ _ hJs (hg.weaken _)) hpre)
   refine hR.mono ?_
   rintro e W' (⟨rfl,hJ',hk⟩|⟨rfl,hJx'⟩)
   ·gi_wp2
    go_end0
    exact ⟨⟨_,rfl⟩,.inl (by rw [hx,ji hfree];exact hJ')⟩
   ·gi_wp2
    go_end0
    exact ⟨⟨_,rfl⟩,.inr ⟨_,hpre,hJx'⟩⟩
  ·have hpre:pre ++ [a] <+: qc p:=by rw [hx,yW b hfa];exact ⟨qc b,by simp⟩
   have hw1:wrap64 (a.length:Int) = a.length:=wrap64_in (by omega) (by simp at hlen;omega)
   have hw2:wrap64 ((a.length:Int) + 1) = a.length + 1:=wrap64_in (by omega) (by simp at hlen;omega)
   have hs1:=ve (a ++ 47 :: b) 0 a.length
   have hs3:({ data:=List.toArray (a ++ 47 :: b) }:ByteArray).extract (a.length + 1) (a.length + (b.length + 1)) = ⟨b.toArray⟩:=by
    rw [ve,List.take_of_length_le (by simp),List.drop_append,List.drop_of_length_le (by omega),List.nil_append,show a.length + 1 - a.length = 1 from by omega];rfl
   have hs2:=ve (a ++ 47 :: b) (a.length + 1) (a ++ 47 :: b).length
   gi_wp2_with (refine ⟨trivial,?_⟩;gi_at_call 78;refine (callsIn_wide.2 (wI _ _)).mono ?_;rintro e w1 ⟨rfl,hg⟩;have hd0:=kept hg hb;have hd1:=kept hg hb1;have hd2:=kept hg hb2;have d0:=(jj hd0).1;have d1:=(jj hd1).1;have d2:=(jj hd2).1;obtain ⟨fn,tmps,assign,body,hy,hR⟩:=hY pre a w1 (hJ _ _ _ hJs (hg.weaken _)) hpre)
   refine hR.mono ?_
   rintro e W' (⟨rfl,hJ',hk⟩|⟨rfl,hJx'⟩)
   ·have he0:=(hk S (by omega) (by omega)).trans hd0
    have he1:=(hk (S + 1) (by omega) (by omega)).trans hd1
    have he2:=(hk (S + 2) (by omega) (by omega)).trans hd2
    have e0:=(jj he0).1
    have e1:=(jj he1).1
    have e2:=(jj he2).1
    have f0:=(jj he0).2
    gi_wp2
    go_roundw
    case rel=>exact ⟨pre ++ [a],b,by rw [hx,yW b hfa];simp,by simp at hlen;omega,kt he0 _,(xh W' _ (by omega)).trans he1,(xh W' _ (by omega)).trans he2,hJ _ _ _ hJ' (grownBy_setCell' W' S _)⟩
    case measure =>
     simp [Xl,(jj (kt he0 (jQ b))).1,c0,ByteArray.size]
     omega
   ·gi_wp2
    refine bodyPost_ret (results_none rfl _ _ _) rfl ?_
    exact ⟨⟨_,rfl⟩,.inr ⟨_,hpre,hJx'⟩⟩
end Go.Proofs.YtnhpclmbhbblbaaDoor
set_option linter.unusedSimpArgs false
set_option linter.unnecessarySimpa false
namespace Go.Proofs.YtnhpclmbhbblbaaDoor
open Go.Ab Go.RowKit Go.Shelf
set_option maxRecDepth 10000
attribute [local go_sem] Oper.semAt_some
def qi (s:qv):List AV:=[.v (str s)]
abbrev mk (D:Nat):Deferred := { target := .collected D,args := #[] }
theorem YJ (s:qv) (w:World):Calls Tryd.prog 64 #[jQ s,jQ yP] w fun e w'=>e = .returned (.int .i64 (s.count 47:Nat)) ∧ w' = w:=by
 show Calls _ _ #[jQ s,.string ⟨#[47]⟩] w _
 go_enter Tryd.func64,Tryd.ntmps64
 go_wp2
 rw [run_callFunc_extern Tryd.func81 (by kernel_rfl) (by kernel_rfl) (by kernel_rfl) (e:=Extern.BytealgCount.count) (by kernel_rfl),Lib.run_countString]
 simp only [Result.andThen]
 rw [Oper.upon_value]
 go_wp2
 go_ret
 refine ⟨?_,rfl⟩
 simp [Lib.countByte]
 rfl
theorem wm (s:qv) (w:World):Calls Tryd.prog 44 #[jQ s] w fun e w'=>e = .returned (.bool (qN s)) ∧ w.grownBy w' none:=by
 have htg:=vf s
 have hg0:w.grownBy w none:=⟨rfl,rfl,rfl,Nat.le_refl _,fun _ _ _=>rfl⟩
 go_enter Tryd.func44,Tryd.ntmps44
 go_wp2_with (go_at_call 64;refine (YJ s _).mono ?_;rintro e w' ⟨rfl,rfl⟩)
 all_goals go_ret
 all_goals (refine ⟨?_,hg0⟩)
 ·show Ending.returned (Value.bool _) = _
  try rw [htg]
  congr 2
  rw [Bool.eq_iff_iff]
  simp
  omega
 ·show Ending.returned (Value.bool true) = _
  try rw [htg]
  congr 2
  have h6:6 ≤ s.count 47:=by first|omega|(simp_all;done)|(simp_all;omega)
  simp [h6]
theorem zr {F:Fence} {n:Nat} {P:Program} {fn:Func} {tmps:Array Value} {R:Ending → World → Prop} : ∀ (Ds:List Nat) (W:World),Ds.Nodup → (∀ D,D ∈ Ds → W.heap[D]? = some (.deferred (some []))) →
  (∀ W',W.heap.size = W'.heap.size → W'.os = W.os → W'.tape = W.tape → W'.output = W.output → (∀ k,k ∉ Ds → W'.heap[k]? = W.heap[k]?) → LeavesInM F n P fn tmps R [] .returning W') → LeavesInM F n P fn tmps R (Ds.map mk) .returning W
 | [],W,_,_,h=>h W rfl rfl rfl rfl fun _ _=>rfl
 | D :: Ds,W,hn,hd,h=>by
   obtain ⟨h1,h2⟩:=List.nodup_cons.1 hn
   have hK:=hd D (by simp)
   refine ⟨by simp,.inl ⟨D,_,rfl,run_takeDeferred hK,zr Ds _ h2 (fun D' hD'=>(World.putObj_heap_other (by rintro rfl;exact h1 hD')).trans (hd D' (by simp [hD']))) fun W' a1 a2 a3 a4 a5=>?_⟩⟩
   refine h W' (by rw [← a1];simp) a2 a3 a4 fun k hk=>?_
   simp only [List.mem_cons,not_or] at hk
   exact (a5 k hk.2).trans (World.putObj_heap_other hk.1)
structure ChkW (w:World) (e:Int) (Ds:List Nat) (W:World):Prop where
 below:Below w.heap.size w W
 cell:W.heap[w.heap.size]? = some (.cells #[.int .i64 e] 24 (0,0))
 marks : ∀ D,D ∈ Ds → w.heap.size < D ∧ W.heap[D]? = some (.deferred (some []))
theorem ChkW.grown {w:World} {e:Int} {Ds:List Nat} {W W' : World} {row:Option Nat} (h:ChkW w e Ds W) (hg:W.grownBy W' row) (hr : ∀ r,row = some r → w.heap.size < r ∧ r ∉ Ds):ChkW w e Ds W':=by
 have hlt:=(Array.getElem?_eq_some_iff.1 h.cell).1
 refine ⟨h.below.grown hg (by omega) (fun k e=>by have:=(hr k e).1;omega),(hg.block _ hlt (fun e=>by have:=(hr _ e.symm).1;omega)).trans h.cell,fun D hD=>⟨(h.marks D hD).1,?_⟩⟩
 exact (hg.block D (Array.getElem?_eq_some_iff.1 (h.marks D hD).2).1 (fun e=>(hr _ e.symm).2 hD)).trans (h.marks D hD).2
theorem ChkW.lt {w:World} {e:Int} {Ds:List Nat} {W:World} (h:ChkW w e Ds W):w.heap.size < W.heap.size:=(Array.getElem?_eq_some_iff.1 h.cell).1
theorem ChkW.mlt {w:World} {e:Int} {Ds:List Nat} {W:World} (h:ChkW w e Ds W) : ∀ D,D ∈ Ds → D < W.heap.size:=fun D hD=>(Array.getElem?_eq_some_iff.1 (h.marks D hD).2).1
theorem ChkW.set {w:World} {e:Int} {Ds:List Nat} {W:World} (h:ChkW w e Ds W) (e' : Int):ChkW w e' Ds (W.setCell ⟨w.heap.size,0,Option.none⟩ (.int .i64 e')) :=
 ⟨h.below.setCell (Nat.le_refl _) _,kt h.cell _,fun D hD=>⟨(h.marks D hD).1,(xh W _ (by have:=(h.marks D hD).1;omega)).trans (h.marks D hD).2⟩⟩
theorem xM {n:Nat} {tmps:Array Value} {w W:World} {e:Int} {Ds:List Nat} (h:ChkW w e Ds W) (hn:Ds.Nodup) (ht:tmps.getD 2 undef = .pointer (some ⟨w.heap.size,0,Option.none⟩)) :
  LeavesInM Fence.wide n Tryd.prog Tryd.f28 tmps (fun en w'=>en = .returned (.int .i64 e) ∧ w.grownBy w' Option.none) (Ds.map mk) .returning W:=by
 refine zr Ds W hn (fun D hD=>(h.marks D hD).2) fun W' a1 a2 a3 a4 a5=>?_
 have hc:W'.heap[w.heap.size]? = some (.cells #[.int .i64 e] 24 (0,0)):=(a5 _ (fun hm=>absurd (h.marks _ hm).1 (Nat.lt_irrefl _))).trans h.cell
 have hcell:=(jj hc).1
 refine ⟨.int .i64 e,?_,rfl,⟨a2.trans h.below.os,a3.trans h.below.tape,a4.trans h.below.output,by have:=h.below.size;omega,fun k hk _=>(a5 k (fun hm=>by have:=(h.marks k hm).1;omega)).trans (h.below.block k hk)⟩⟩
 simp only [Array.getD_eq_getD_getElem?] at ht
 simp [results,Tryd.results28,go_sem,ht,hcell]
theorem QH {w W X:World} {e e' : Int} {Ds:List Nat} {D:Nat} (hW:ChkW w e Ds W) (hnd:Ds.Nodup) (hX:ChkW w e' Ds X) (hK:X.heap[D]? = some (.deferred (some []))) (hD:W.heap.size ≤ D) :
  ChkW w e' (D :: Ds) X ∧ (D :: Ds).Nodup ∧ mk D :: Ds.map mk = (D :: Ds).map mk:=by
 have:=hW.lt
 refine ⟨⟨hX.below,hX.cell,fun D' hD'=>?_⟩,List.nodup_cons.2 ⟨fun hm=>by have:=hW.mlt _ hm;omega,hnd⟩,rfl⟩
 rcases List.mem_cons.1 hD' with rfl|h
 ·exact ⟨by omega,hK⟩
 ·exact hX.marks D' h
theorem vN {p n:qv} (h:n ∈ qc p):n.length ≤ p.length:=by
 induction p generalizing n with
 | nil=>simp [qc] at h;subst h;simp
 | cons c s ih =>
   simp only [qc] at h
   split at h
   ·rcases List.mem_cons.1 h with rfl|h
    ·simp
    ·have:=ih h;simp;omega
   ·split at h
    ·simp at h;subst h;simp
    ·rename_i m l hm
     rcases List.mem_cons.1 h with rfl|h
     ·have:=ih (n:=m) (by rw [hm];simp);simp;omega
     ·have:=ih (n:=n) (by rw [hm];simp [h]);simp;omega
theorem vv {ps:List qv} {i:Nat} (h:i < ps.length):jc (ps.drop i) = if qg ps[i] = 0 then jc (ps.drop (i + 1)) else qg ps[i]:=by
 rw [List.drop_eq_getElem_cons h];rfl
theorem wo (ps:List qv) (hps:ps.length ≤ 1000000) (hsz : ∀ p,p ∈ ps → p.length ≤ 140737488355328) (A:Option Addr) (cap:Nat) (w:World)
  (hA : ∀ i (h:i < ps.length), ∃ bb off,A = some ⟨bb,off,Option.none⟩ ∧ bb < w.heap.size ∧ w.cell? ⟨bb,off + i,Option.none⟩ = some (jQ ps[i])) :
  Calls Tryd.prog 28 #[.slice A ps.length cap] w fun e w'=>e = .returned (.int .i64 (jc ps)) ∧ w.grownBy w' Option.none:=by
 refine (callsIn_wide (n:=10)).1 ?_
 refine callsIn_of_wp_marks Tryd.func28 rfl trivial ?_ rfl
 simp only [Tryd.ntmps28,List.size_toArray,List.length_cons,List.length_nil,Nat.reduceAdd,Nat.reduceSub,Array.replicate_succ,Array.replicate_zero,List.push_toArray,List.append_toArray,List.cons_append,List.nil_append]
 gi_wp2
 refine wpIn_loop (fun a W => ∃ (i:Nat) (Ds:List Nat) (u4 u5 u9 u10 u11 u12 u13 u14 u15 u16 u17 u18 u19 u20:Value),i ≤ ps.length ∧ jc ps = jc (ps.drop i) ∧ Ds.Nodup ∧ ChkW w 0 Ds W ∧
  a = { tmps := #[.slice A ps.length cap,undef,.pointer (some ⟨w.heap.size,0,Option.none⟩),undef,u4,u5,.slice A ps.length cap,.int .i64 ps.length,.int .i64 i,u9,u10,u11,u12,u13,u14,u15,u16,u17,u18,u19,u20],defers:=Ds.map mk })
  (fun a _=>ps.length - (intOf (a.tmps.getD 8 undef)).toNat) ⟨0,[],undef,undef,undef,undef,undef,undef,undef,undef,undef,undef,undef,undef,undef,undef,Nat.zero_le _,rfl,List.nodup_nil,?start,rfl⟩ ?round
 case start=>exact ⟨(Below.refl _ w).alloc (Nat.le_refl _) _,World.alloc_heap_new w _,nofun⟩
 case round =>
  rintro a W ⟨i,Ds,u4,u5,u9,u10,u11,u12,u13,u14,u15,u16,u17,u18,u19,u20,hi,herr,hnd,hW,rfl⟩
  have hlt0:=hW.lt
  have cE:=(jj hW.cell).1
  have fE:=(jj hW.cell).2
  by_cases hlt:i < ps.length
  ·obtain ⟨bb,off,hAA,hbb,hcell⟩:=hA i hlt
   subst hAA
   have hc:W.cell? ⟨bb,off + i,Option.none⟩ = some (jQ ps[i]):=by rw [World.cell?_of_block (hW.below.block bb hbb)];exact hcell
   gi_wp2_with (refine ⟨trivial,?_⟩;gi_at_call 42;refine (callsIn_wide.2 (w5 _ _)).mono ?_;rintro e w' ⟨rfl,rfl⟩)
   have hst : ∀ e (X Y:World) row,ChkW w e Ds X → X.grownBy Y row → (∀ r,row = some r → W.heap.size ≤ r) → ChkW w e Ds Y:=fun e X Y row hX hg hr=>hX.grown hg fun r e=>by
    have h1:=hr r e
    exact ⟨by omega,fun hm=>by have:=hW.mlt r hm;omega⟩
   have hpi:=hsz ps[i] (List.getElem_mem hlt)
   have hW3:ChkW w 0 Ds (((W.alloc (.cells #[jQ ps[i]] 9)).alloc (.cells #[jQ yP] 9)).alloc (.cells #[.int .i64 0] 3)):=hst 0 _ _ Option.none hW ⟨rfl,rfl,rfl,by simp;omega,fun k hk _=>((Below.heap_alloc _ _ k (by simp;omega)).trans (Below.heap_alloc _ _ k (by simp;omega))).trans (Below.heap_alloc _ _ k hk)⟩ nofun
   refine vJ (F:=Fence.wide) rfl (by decide) (gf:=76) (lb := #[vZ (W.heap.size + 1),vZ W.heap.size,vZ (W.heap.size + 2)]) rfl trivial (enters_of Tryd.func76 (by kernel_rfl) rfl) (S:=W.heap.size) (names:=qc ps[i]) (by simp) (JR _ (by decide) ps[i] hpi _ _ ?s0 ?s1 ?s2) rfl
    (fun pre X=>(∀ x,x ∈ pre → qH x = true) ∧ ChkW w 0 Ds X) (fun pre X=>(∃ x,x ∈ pre ∧ qH x = false) ∧ ChkW w 1 Ds X)
    (fun s X Y row h hg hr=>⟨h.1,hst 0 X Y row h.2 hg hr⟩) (fun s X Y row h hg hr=>⟨h.1,hst 1 X Y row h.2 hg hr⟩) ⟨nofun,hW3⟩
    (fun x => { tmps := #[.slice (some ⟨bb,off,Option.none⟩) ps.length cap,undef,.pointer (some ⟨w.heap.size,0,Option.none⟩),undef,jQ ps[i],jQ x,.slice (some ⟨bb,off,Option.none⟩) ps.length cap,.int .i64 ps.length,.int .i64 i,.bool true,.pointer (some ⟨bb,off + i,Option.none⟩),jQ ps[i],jQ ps[i],.func (.func 76) #[] #[vZ (W.heap.size + 1),vZ W.heap.size,vZ (W.heap.size + 2)],jQ x,u15,u16,u17,u18,u19,u20],defers:=[] }) ?assign ?body ?done ?stop
   case s0=>exact (Below.heap_alloc _ _ _ (by simp;omega)).trans ((Below.heap_alloc _ _ _ (by simp)).trans (World.alloc_heap_new W _))
   case s1=>exact (Below.heap_alloc _ _ _ (by simp)).trans (by have:=World.alloc_heap_new (W.alloc (.cells #[jQ ps[i]] 9)) (.cells #[jQ yP] 9);rwa [World.size_alloc] at this)
   case s2=>exact (by have:=World.alloc_heap_new ((W.alloc (.cells #[jQ ps[i]] 9)).alloc (.cells #[jQ yP] 9)) (.cells #[.int .i64 0] 3);rwa [World.size_alloc,World.size_alloc] at this)
   case assign =>
    intro l x X K hK
    gi_wp2
    exact hK
   case body =>
    rintro l pre x X ⟨hpre,hX⟩ hpx hsX
    have hxn:x ∈ qc ps[i]:=hpx.subset (by simp)
    have hxl:x.length ≤ 9223372036854775807:=by have:=vN hxn;omega
    have cX:=(jj hX.cell).1
    have fX:=(jj hX.cell).2
    cases hb:qH x
    ·gi_wp2_with (refine ⟨trivial,?_⟩;gi_at_call 43;refine (CallsIn.inRound l (callsIn_wide.2 (kD x _ hxl))).mono ?_;rintro e w1 ⟨rfl,rfl⟩)
     exact ⟨⟨by simp [World.setCell],fun k hk hle=>xh X _ (by omega)⟩,⟨x,by simp,hb⟩,hX.set 1⟩
    ·gi_wp2_with (refine ⟨trivial,?_⟩;gi_at_call 43;refine (CallsIn.inRound l (callsIn_wide.2 (kD x _ hxl))).mono ?_;rintro e w1 ⟨rfl,rfl⟩)
     exact ⟨⟨Nat.le_refl _,fun _ _ _=>rfl⟩,fun y hy=>(List.mem_append.1 hy).elim (hpre y) (fun e=>by rw [List.mem_singleton.1 e];exact hb),hX⟩
   case done =>
    rintro X ⟨hpre,hX⟩ hK
    obtain ⟨hX',hnd', -⟩:=QH hW hnd hX (D:=W.heap.size + 3) (by simpa using hK) (by omega)
    have hall:(qc ps[i]).all qH = true:=List.all_eq_true.2 hpre
    cases hgt:qN ps[i]
    ·have hpe:qg ps[i] = 0:=by simp [qg,hall,hgt]
     gi_wp2_with (refine ⟨trivial,?_⟩;gi_at_call 44;refine (callsIn_wide.2 (wm _ _)).mono ?_;rintro e w1 ⟨rfl,hg⟩;have hY:=hX'.grown hg nofun)
     refine ⟨⟨i + 1,(W.heap.size + 3) :: Ds,_,_,_,_,_,_,_,_,_,_,_,_,_,_,by omega,by rw [herr,vv hlt,hpe];rfl,hnd',hY,rfl⟩,?_⟩
     simp [intOf]
     omega
    ·have hpe:qg ps[i] = 2:=by simp [qg,hall,hgt]
     have hz:jc ps = 2:=by rw [herr,vv hlt,hpe];rfl
     gi_wp2_with (refine ⟨trivial,?_⟩;gi_at_call 44;refine (callsIn_wide.2 (wm _ _)).mono ?_;rintro e w1 ⟨rfl,hg⟩;have hY:=hX'.grown hg nofun;have cY:=(jj hY.cell).1;have fY:=(jj hY.cell).2)
     rw [hz]
     exact xM (hY.set 2) hnd' rfl
   case stop =>
    rintro pre X hpre ⟨⟨x,hx,hb⟩,hX⟩ hK
    obtain ⟨hX',hnd', -⟩:=QH hW hnd hX (D:=W.heap.size + 3) (by simpa using hK) (by omega)
    have hall:¬ (qc ps[i]).all qH = true:=fun h=>by
     have:=List.all_eq_true.1 h x (hpre.subset hx)
     rw [hb] at this;cases this
    have hpe:qg ps[i] = 1:=by simp only [qg,hall];rfl
    have hz:jc ps = 1:=by rw [herr,vv hlt,hpe];rfl
    gi_wp2
    rw [hz]
    simp only [World.size_alloc]
    exact xM hX' hnd' rfl
  ·have hz:jc ps = 0:=by rw [herr,List.drop_of_length_le (by omega)];rfl
   gi_wp2
   rw [hz]
   exact xM (hW.set 0) hnd rfl
theorem J1 (ps:List qv) (hps:ps.length ≤ 1000000) (hsz : ∀ p,p ∈ ps → p.length ≤ 140737488355328):yc C.P 28 [.sl false (ps.map qi)] (.v (.int .i64 (jc ps))):=by
 refine Jq rfl fun F ρ vs w hag hl hm=>?_
 obtain ⟨v,rfl⟩ : ∃ v,vs = [v]:=by
  match vs,hl with
  | [v],_=>exact ⟨v,rfl⟩
 have h1:=hm 0 v _ rfl rfl
 rcases h1.sl_inv with ⟨h0,ad,cap,hv,_⟩|⟨b,o,cap,c,e',fr,kk,hb,_,_,hsz',hkk,hR,hv⟩
 ·have hnil:ps = []:=List.map_eq_nil_iff.1 h0
  subst hnil
  rw [hv]
  exact wo [] hps hsz ad cap w (fun i h=>absurd h (Nat.not_lt_zero _))
 ·rw [hv]
  have hk1 : ∀ i,i < ps.length → kk = 1:=fun i hi=>(hkk _ (List.getElem_mem (l:=ps.map qi) (n:=i) (by simpa using hi))).symm.trans (by simp [qi])
  have hbw:=hag b _ hb
  have:=wo ps hps hsz (some ⟨b,o,Option.none⟩) cap w (fun i hi=>⟨b,o,rfl,(Array.getElem?_eq_some_iff.1 hbw).1,?_⟩)
  ·rw [List.length_map];exact this
  ·have hk:=hk1 i hi
   subst hk
   have hlt:o + i < c.size:=by simp at hsz';omega
   have hcv:c[o + i]? = some c[o + i]:=Array.getElem?_eq_getElem hlt
   have hrow:(ps.map qi)[i]? = some (qi ps[i]):=by simp [hi]
   have hMv:=hR i 0 (qi ps[i]) (.v (str ps[i])) c[o + i] hrow rfl (by simpa using hcv)
   have:=hMv.v_inv.1
   simp [World.cell?,hbw,hcv,this,str]
end Go.Proofs.YtnhpclmbhbblbaaDoor
set_option linter.unusedSimpArgs false
set_option linter.unnecessarySimpa false
set_option maxHeartbeats 1000000
namespace Go.Proofs.YtnhpclmbhbblbaaDoor
open Go.Ab Go.RowKit
set_option maxRecDepth 10000
attribute [local irreducible] Awp jk qG q9 Red qp Go.Ab.Fin qx Rz yS qX qT ResOk jp jd jG qR
theorem X1 (s:qv) (c:UInt8) (hs:s.length ≤ 9223372036854775807):yc C.P 46 [.v (str s),.v (.int .u8 (c.toNat:Int))] (.v (.int .i64 (jy c s))):=by
 refine qa Tryd.func46 rfl _ Tryd.ntmps46 (Nat.le_of_ble_eq_true rfl) _ Tryd.results46 0 rfl rfl ?_
 repeat' (first|refine qj ?_|fail|((first|refine xsC ?_ ?_);all_goals (intro hc;have hp:=hc;try simp at hp;try (exfalso;omega)))|refine qD ?_ ?_)
 (refine Awp.red (ql (ts:=[(0,.v (str s)),(1,.v (.int .u8 (c.toNat:Int))),(5,.v (.int .i64 ((s.length:Int) - 1 - ((0:Nat):Int))))]) ?_) ?_;((repeat (first|exact qd|refine qn ?_|refine qM ?_ ?_))))
 all_goals try (apply kV;omega)
 refine qy (fun n σ => ∃ i:Nat,i ≤ s.length ∧ n = s.length - i ∧ (c ∉ s.drop (s.length - i)) ∧ σ = ⟨[(0,.v (str s)),(1,.v (.int .u8 (c.toNat:Int))),(5,.v (.int .i64 ((s.length:Int) - 1 - (i:Int))))],[],C.nh⟩) s.length ⟨0,Nat.zero_le _,rfl,(by simp),rfl⟩ ?_
 rintro n σ ⟨i,hi,rfl,hsofar,rfl⟩
 by_cases hlt:i < s.length
 ·have hx:(s.length:Int) - 1 - (i:Int) = ((s.length - 1 - i:Nat):Int):=by omega
  have hk:s.length - 1 - i < s.length:=by omega
  have hr:s[s.length - 1 - i]? = some s[s.length - 1 - i]:=List.getElem?_eq_getElem hk
  rw [hx]
  repeat' (first|refine qj ?_|fail|((first|refine xsC ?_ ?_);all_goals (intro hc;have hp:=hc;try simp at hp;try (exfalso;omega)))|refine qD ?_ ?_)
  all_goals try (exfalso;omega)
  ·apply qC
   rfl
   have hc:s[s.length - 1 - i] = c:=UInt8.toNat.inj (by omega)
   exact (Jv hk hc (by rw [show s.length - 1 - i + 1 = s.length - i from by omega];exact hsofar)).symm
  ·have hc:¬ s[s.length - 1 - i] = c:=fun e=>by subst e;omega
   have hnext:c ∉ s.drop (s.length - (i + 1)):=by
    rw [show s.length - (i + 1) = s.length - 1 - i from by omega,List.drop_eq_getElem_cons hk,show s.length - 1 - i + 1 = s.length - i from by omega]
    simp only [List.mem_cons,not_or]
    exact ⟨fun e=>hc e.symm,hsofar⟩
   refine ⟨s.length - (i + 1),_,by omega,ql (ts:=[(0,.v (str s)),(1,.v (.int .u8 (c.toNat:Int))),(5,.v (.int .i64 ((s.length:Int) - 1 - ((i + 1:Nat):Int))))]) ?_,i + 1,by omega,rfl,hnext,rfl⟩;((repeat (first|exact qd|refine qn ?_|refine qM ?_ ?_));all_goals (apply kV;omega))
 obtain rfl:i = s.length:=by omega
 rw [show (s.length:Int) - 1 - (s.length:Int) = -1 from by omega]
 repeat' (first|refine qj ?_|fail|((first|refine xsC ?_ ?_);all_goals (intro hc;have hp:=hc;try simp at hp;try (exfalso;omega)))|refine qD ?_ ?_)
 all_goals try (exfalso;omega)
 apply qC
 rfl
 have:c ∉ s:=by simpa using hsofar
 exact (jK this).symm
theorem VC (s:qv) (c:UInt8) (hs:s.length ≤ 9223372036854775807):yc C.P 32 [.v (str s),.v (.int .u8 (c.toNat:Int))] (.v (.int .i64 (jy c s))):=by
 refine qa Tryd.func32 rfl _ Tryd.ntmps32 (Nat.le_of_ble_eq_true rfl) _ Tryd.results32 0 rfl rfl ?_
 repeat' (first|refine qj ?_|(first|refine jH Tryd.func46 (X1 s c hs ..) ?_)|((first|refine xsC ?_ ?_);all_goals (intro hc;have hp:=hc;try simp at hp;try (exfalso;omega)))|refine qD ?_ ?_)
 apply qC
 rfl
 rfl
theorem Qc (s:qv) (hs:s.length ≤ 9223372036854775800):yc C.P 15 [.v (str s)] (.tup [.v (str (qm s)),.v (str (qP s))]):=by
 have hl:=VC s 47 (by omega)
 have hbd:=kO 47 s
 have hpd:qm s = s.take (jy 47 s).toNat:=rfl
 have hld:qP s = s.drop (jy 47 s + 1).toNat:=rfl
 generalize jy 47 s = k at hl hbd hpd hld
 refine qa Tryd.func15 rfl _ Tryd.ntmps15 (Nat.le_of_ble_eq_true rfl) _ Tryd.results15 0 rfl rfl ?_
 repeat' (first|refine qj ?_|(first|refine jH Tryd.func32 (hl ..) ?_|(apply qh;apply Vh;(case hx=>rfl);(case hy=>rfl);(case hN=>exact nle rfl))|(apply qh;apply j0 (a:=0) (b:=k.toNat);(case hx=>rfl);(case hT=>rfl);(case he=>rfl);(case ha=>rfl);(case hb=>exact ⟨_,rfl⟩);(case hab=>(first|omega|(simp;done)|(simp only [List.length_cons,List.length_nil,List.length_map];omega)|(simp;omega)));(case hbl=>(first|omega|(simp;done)|(simp only [List.length_cons,List.length_nil,List.length_map];omega)|(simp;omega)));(case hN=>exact nle rfl))|(apply qh;apply j0 (a:=(k + 1).toNat) (b:=s.length);(case hx=>rfl);(case hT=>rfl);(case he=>rfl);(case ha=>exact ⟨_,kV (by omega)⟩);(case hb=>rfl);(case hab=>(first|omega|(simp;done)|(simp only [List.length_cons,List.length_nil,List.length_map];omega)|(simp;omega)));(case hbl=>(first|omega|(simp;done)|(simp only [List.length_cons,List.length_nil,List.length_map];omega)|(simp;omega)));(case hN=>exact nle rfl)))|((first|refine xsC ?_ ?_);all_goals (intro hc;have hp:=hc;try simp at hp;try (exfalso;omega)))|refine qD ?_ ?_)
 all_goals try (exfalso;omega)
 (refine xV (rs:=[.tmp 2,.tmp 3]) ?_;(repeat' (first|exact qS|apply qw|exact qK rfl|exact yH|exact k9|apply j4|apply xo|apply jN|apply xu|apply yy|apply xx|refine wj ?_|apply vM));all_goals (first|exact hpd.symm|(rw [hld,List.take_length])))
end Go.Proofs.YtnhpclmbhbblbaaDoor
set_option linter.unusedSimpArgs false
set_option linter.unnecessarySimpa false
set_option maxHeartbeats 1000000
namespace Go.Proofs.YtnhpclmbhbblbaaDoor
open Go.Ab Go.RowKit
set_option maxRecDepth 10000
attribute [local irreducible] Awp jk qG q9 Red qp Go.Ab.Fin qx Rz yS qX qT ResOk jp jd jG qR
theorem Js (q s:qv):q.isPrefixOf s = (decide (q.length ≤ s.length) && decide (s.take q.length = q)):=by
 rw [Bool.eq_iff_iff,List.isPrefixOf_iff_prefix,Bool.and_eq_true,decide_eq_true_iff,decide_eq_true_iff,List.prefix_iff_eq_take]
 constructor
 ·intro h
  have h2:=congrArg List.length h
  rw [List.length_take] at h2
  exact ⟨by omega,h.symm⟩
 ·rintro ⟨_,h⟩;exact h.symm
theorem YE (s q:qv):yc C.P 91 [.v (str s),.v (str q)] (.v (.bool (q.isPrefixOf s))):=by
 have hpt:=Js q s
 refine qa Tryd.func91 rfl _ Tryd.ntmps91 (Nat.le_of_ble_eq_true rfl) _ Tryd.results91 0 rfl rfl ?_
 repeat' (first|refine qj ?_|(first|(apply qh;apply j0 (a:=0) (b:=q.length);(case hx=>rfl);(case hT=>rfl);(case he=>rfl);(case ha=>rfl);(case hb=>exact ⟨_,rfl⟩);(case hab=>(first|omega|(simp;done)|(simp only [List.length_cons,List.length_nil,List.length_map];omega)|(simp;omega)));(case hbl=>(first|omega|(simp;done)|(simp only [List.length_cons,List.length_nil,List.length_map];omega)|(simp;omega)));(case hN=>exact nle rfl)))|((first|refine qe ?_ ?_|refine qf ?_ ?_|refine xsC ?_ ?_);all_goals (intro hc;have hp:=hc;try simp at hp;try (exfalso;omega)))|refine qD ?_ ?_)
 all_goals try (exfalso;omega)
 ·apply q8
  rfl
  have:q.length ≤ s.length:=by omega
  rw [hpt];simp [this]
 ·apply q8
  rfl
  have:¬ q.length ≤ s.length:=by omega
  rw [hpt];simp [this]
theorem Xg (s q:qv):yc C.P 83 [.v (str s),.v (str q)] (.v (.bool (q.isPrefixOf s))):=by
 refine qa Tryd.func83 rfl _ Tryd.ntmps83 (Nat.le_of_ble_eq_true rfl) _ Tryd.results83 0 rfl rfl ?_
 repeat' (first|refine qj ?_|(first|refine jH Tryd.func91 (YE s q ..) ?_)|((first|refine xsC ?_ ?_);all_goals (intro hc;have hp:=hc;try simp at hp;try (exfalso;omega)))|refine qD ?_ ?_)
 apply q8
 rfl
 rfl
theorem Yn (p q:qv) (hq:q.length ≤ 140737488355328):yc C.P 70 [.v (str p),.v (str q)] (.v (.bool (inB p q))):=by
 have hpr:=Xg p (q ++ [47])
 refine qa Tryd.func70 rfl _ Tryd.ntmps70 (Nat.le_of_ble_eq_true rfl) _ Tryd.results70 0 rfl rfl ?_
 repeat' (first|refine qj ?_|(first|refine jH Tryd.func83 (hpr ..) ?_)|((first|refine qe ?_ ?_|refine qf ?_ ?_|refine xsC ?_ ?_);all_goals (intro hc;have hp:=hc;try simp at hp;try (exfalso;omega)))|refine qD ?_ ?_)
 all_goals (apply q8;rfl;simp_all [inB])
theorem w3 (p:qv):jc [p] = qg p:=by
 simp only [jc];split<;>simp_all
theorem Xy (p:qv) (hp:p.length ≤ 140737488355328):yc C.P 28 [.sl false [[.v (str p)]]] (.v (.int .i64 (qg p))):=by
 have:=J1 [p] (by simp) (by simpa using hp)
 rw [w3] at this
 exact this
theorem v2 (p:qv) (hp:p.length ≤ 140737488355328):yc C.P 13 [.v (str p)] (.v (.int .i64 (qg p))):=by
 have hch:=Xy p hp
 refine qa Tryd.func13 rfl _ Tryd.ntmps13 (Nat.le_of_ble_eq_true rfl) _ Tryd.results13 0 rfl rfl ?_
 repeat' (first|refine qj ?_|(first|(refine jr ?_)|refine jV Tryd.func28 (hch ..) ?_)|((first|refine xsC ?_ ?_);all_goals (intro hc;have hp:=hc;try simp at hp;try (exfalso;omega)))|refine qD ?_ ?_)
 apply qC
 rfl
 rfl
def VN (e:Int) (s:qv):qv:=if e = 0 then s else []
def jP (p f t:qv):Int:=if jc [p,f,t] = 0 then (if inB p f then (if qN (t ++ p.drop f.length) then 2 else 0) else 5) else jc [p,f,t]
theorem XY {p f:qv} (h:inB p f = true):f.length ≤ p.length:=by
 simp only [inB,Bool.or_eq_true,decide_eq_true_eq,List.isPrefixOf_iff_prefix] at h
 rcases h with rfl|h
 ·exact Nat.le_refl _
 ·have:=h.length_le;simp at this;omega
theorem J8 (p f t:qv) (hp:p.length ≤ 140737488355328) (hf:f.length ≤ 140737488355328) (ht:t.length ≤ 140737488355328):yc C.P 75 [.v (str p),.v (str f),.v (str t)] (.tup [.v (str (VN (jP p f t) (t ++ p.drop f.length))),.v (.int .i64 (jP p f t))]):=by
 have hch:yc C.P 28 [.sl false [[.v (str p)],[.v (str f)],[.v (str t)]]] (.v (.int .i64 (jc [p,f,t]))):=J1 [p,f,t] (by simp) (by simpa using ⟨hp,hf,ht⟩)
 have hi:=Yn p f hf
 have hg:=XU (t ++ p.drop f.length)
 have hln := @XY p f
 have htk:p.take p.length = p:=List.take_length
 cases hb:inB p f with
 | false =>
   rw [hb] at hi
   refine qa Tryd.func75 rfl _ Tryd.ntmps75 (Nat.le_of_ble_eq_true rfl) _ Tryd.results75 0 rfl rfl ?_
   repeat' (first|refine qj ?_|(first|(refine jr ?_)|refine jV Tryd.func28 (hch ..) ?_|refine jH Tryd.func70 (hi ..) ?_)|((first|refine xsC ?_ ?_);all_goals (intro hc;have hp:=hc;try simp at hp;try (exfalso;omega)))|refine qD ?_ ?_)
   all_goals ((refine xV (rs:=[.tmp 6,.tmp 7]) ?_;(repeat' (first|exact qS|apply qw|exact qK rfl|exact yH|exact k9|apply j4|apply xo|apply jN|apply xu|apply yy|apply xx|refine wj ?_|apply vM));all_goals (simp_all [VN,jP])))
 | true =>
   rw [hb] at hi
   have hfl:=hln hb
   have hdl:(p.drop f.length).length ≤ p.length:=by simp
   refine qa Tryd.func75 rfl _ Tryd.ntmps75 (Nat.le_of_ble_eq_true rfl) _ Tryd.results75 0 rfl rfl ?_
   repeat' (first|refine qj ?_|(first|(refine jr ?_)|refine jV Tryd.func28 (hch ..) ?_|refine jH Tryd.func70 (hi ..) ?_|(apply qh;apply j0 (a:=f.length) (b:=p.length);(case hx=>rfl);(case hT=>rfl);(case he=>rfl);(case ha=>exact ⟨_,rfl⟩);(case hb=>rfl);(case hab=>(first|omega|(simp;done)|(simp only [List.length_cons,List.length_nil,List.length_map];omega)|(simp;omega)));(case hbl=>(first|omega|(simp;done)|(simp only [List.length_cons,List.length_nil,List.length_map];omega)|(simp;omega)));(case hN=>exact nle rfl))|(apply jo Tryd.func44 rfl rfl;intro hIsFn;refine Vo hIsFn ((htk.symm ▸ hg) ..) ?_;skip))|((first|refine xsC ?_ ?_);all_goals (intro hc;have hp:=hc;try simp at hp;try (exfalso;omega)))|refine qD ?_ ?_)
   all_goals ((refine xV (rs:=[.tmp 6,.tmp 7]) ?_;(repeat' (first|exact qS|apply qw|exact qK rfl|exact yH|exact k9|apply j4|apply xo|apply jN|apply xu|apply yy|apply xx|refine wj ?_|apply vM));all_goals (simp_all [VN,jP])))
end Go.Proofs.YtnhpclmbhbblbaaDoor
set_option linter.unusedSimpArgs false
set_option linter.unnecessarySimpa false
set_option maxHeartbeats 1000000
namespace Go.Proofs.YtnhpclmbhbblbaaDoor
open Go.Ab Go.RowKit
set_option maxRecDepth 10000
attribute [local irreducible] Awp jk qG q9 Red qp Go.Ab.Fin qx Rz yS qX qT ResOk jp jd jG qR
end Go.Proofs.YtnhpclmbhbblbaaDoor
set_option linter.unusedSimpArgs false
set_option linter.unnecessarySimpa false
set_option maxHeartbeats 1000000
namespace Go.Proofs.YtnhpclmbhbblbaaDoor
open Go.Ab Go.RowKit
set_option maxRecDepth 10000
attribute [local irreducible] Awp jk qG q9 Red qp Go.Ab.Fin qx Rz yS qX qT ResOk jp jd jG qR
end Go.Proofs.YtnhpclmbhbblbaaDoor
set_option linter.unusedSimpArgs false
set_option linter.unnecessarySimpa false
set_option maxHeartbeats 1000000
namespace Go.Proofs.YtnhpclmbhbblbaaDoor
open Go.Ab Go.RowKit
set_option maxRecDepth 10000
attribute [local irreducible] Awp jk qG q9 Red qp Go.Ab.Fin qx Rz yS qX qT ResOk jp jd jG qR
def fromN (p:qv) (i:Nat):Nat:=i - (qP (p.take i)).length
def Jj (p:qv) (i:Nat):List qv:=(qc (p.take i)).dropLast
@[simp] theorem V2 (p:qv):Jj p 0 = []:=rfl
@[simp] theorem Vy (p:qv):fromN p 0 = 0:=rfl
@[simp] theorem Vs (s:qv):cellsOf (AV.v (str s)) = [AV.v (str s)]:=rfl
theorem Ya {s:qv} {X:List qv} {y:qv} (h:qc s = X ++ [y]):(qc s).dropLast = X ∧ qP s = y:=by
 have h1:=(yX s).1
 rw [h,List.dropLast_concat] at h1
 refine ⟨by rw [h,List.dropLast_concat],?_⟩
 have:=List.append_cancel_left h1
 simpa using this.symm
theorem JE {p:qv} {i:Nat} (h:i < p.length) (hc:p[i] = 47):Jj p (i + 1) = Jj p i ++ [qP (p.take i)] ∧ fromN p (i + 1) = i + 1:=by
 have e:p.take (i + 1) = p.take i ++ [47]:=by rw [List.take_succ_eq_append_getElem h,hc]
 obtain ⟨h1,h2⟩:=Ya (wc (p.take i))
 refine ⟨?_,?_⟩
 ·show (qc (p.take (i + 1))).dropLast = _
  rw [e,h1];exact (yX (p.take i)).1
 ·show i + 1 - (qP (p.take (i + 1))).length = _
  rw [e,h2];rfl
theorem JK {p:qv} {i:Nat} (h:i < p.length) (hc:¬ p[i] = 47):Jj p (i + 1) = Jj p i ∧ fromN p (i + 1) = fromN p i:=by
 have e:p.take (i + 1) = p.take i ++ [p[i]]:=List.take_succ_eq_append_getElem h
 obtain ⟨h1,h2⟩:=Ya (w7 hc (p.take i))
 refine ⟨?_,?_⟩
 ·show (qc (p.take (i + 1))).dropLast = _
  rw [e,h1];rfl
 ·show i + 1 - (qP (p.take (i + 1))).length = _
  rw [e,h2];unfold fromN;simp
theorem Ye {p:qv} {i:Nat} (h:i ≤ p.length):fromN p i ≤ i ∧ (p.take i).drop (fromN p i) = qP (p.take i):=by
 have:=(wb (p.take i)).2
 rw [List.length_take,Nat.min_eq_left h] at this
 exact ⟨Nat.sub_le _ _,this⟩
theorem XO (p:qv) (i:Nat):(Jj p i).length ≤ p.length:=by
 unfold Jj
 rw [List.length_dropLast,vo]
 have h1:(p.take i).count 47 ≤ (p.take i).length:=List.count_le_length
 have h2:(p.take i).length ≤ p.length:=by rw [List.length_take];omega
 omega
theorem vz (p:qv) (hp:p.length ≤ 4000000000):yc C.P 19 [.v (str p)] (.sl false ((qc p).map qi)):=by
 refine qa Tryd.func19 rfl _ Tryd.ntmps19 (Nat.le_of_ble_eq_true rfl) _ Tryd.results19 0 rfl rfl ?_
 repeat' (first|refine qj ?_|fail|((first|refine xsC ?_ ?_);all_goals (intro hc;have hp:=hc;try simp at hp;try (exfalso;omega)))|refine qD ?_ ?_)
 refine Awp.red (vB 3 1 rfl (Nat.zero_le _)) ?_
 (refine Awp.red (je (τ:=⟨[(0,.v (str p)),(3,.os 0 0 (Jj p 0).length),(4,.v (.int .i64 ((fromN p 0:Nat):Int))),(5,.v (.int .i64 ((0:Nat):Int)))],[(0,.own false 1 ((Jj p 0).map qi))],1⟩) [(0,0)] rfl ?gts ?ghs) ?gmain;(case gts=>(repeat (first|exact qd|refine qn ?_|refine xd ?_|refine vH ?_|refine qM ?_ ?_)));(case ghs=>(repeat (first|exact qr|refine jT ?_|refine jb ?_ ?_))))
 refine qy (fun n σ => ∃ i:Nat,i ≤ p.length ∧ n = p.length - i ∧ (True) ∧ σ = ⟨[(0,.v (str p)),(3,.os 0 0 (Jj p i).length),(4,.v (.int .i64 ((fromN p i:Nat):Int))),(5,.v (.int .i64 (i:Int)))],[(0,.own false 1 ((Jj p i).map qi))],1⟩) p.length ⟨0,Nat.zero_le _,rfl,trivial,rfl⟩ ?_
 rintro n σ ⟨i,hi,rfl, -,rfl⟩
 have hnl:=XO p i
 by_cases hlt:i < p.length
 ·have hr:p[i]? = some p[i]:=List.getElem?_eq_getElem hlt
  obtain ⟨hfl,hfd⟩:=Ye hi
  have hs1 := @JE p i hlt
  have hs2 := @JK p i hlt
  generalize hF:fromN p i = fr at hfl hfd hs1 hs2 ⊢
  repeat' (first|refine qj ?_|(first|(apply qh;apply j0 (a:=fr) (b:=i);(case hx=>rfl);(case hT=>rfl);(case he=>rfl);(case ha=>exact ⟨_,rfl⟩);(case hb=>exact ⟨_,rfl⟩);(case hab=>(first|omega|(simp;done)|(simp only [List.length_cons,List.length_nil,List.length_map];omega)|(simp;omega)));(case hbl=>(first|omega|(simp;done)|(simp only [List.length_cons,List.length_nil,List.length_map];omega)|(simp;omega)));(case hN=>exact nle rfl))|(refine jr ?_)|(refine xt ?_))|((first|refine xsC ?_ ?_);all_goals (intro hc;have hp:=hc;try simp at hp;try (exfalso;omega)))|refine qD ?_ ?_)
  all_goals try (exfalso;omega)
  ·have hc:p[i] = 47:=UInt8.toNat.inj (by show p[i].toNat = 47;omega)
   obtain ⟨hk,hk2⟩:=hs1 hc
   refine ⟨p.length - (i + 1),_,by omega,je (τ:=⟨[(0,.v (str p)),(3,.os 0 0 (Jj p (i + 1)).length),(4,.v (.int .i64 ((fromN p (i + 1):Nat):Int))),(5,.v (.int .i64 ((i + 1:Nat):Int)))],[(0,.own false 1 ((Jj p (i + 1)).map qi))],1⟩) [(1,0)] rfl ?gts ?ghs,i + 1,by omega,rfl,trivial,rfl⟩;(case gts=>(repeat (first|exact qd|refine qn ?_|refine xd ?_|refine vH ?_|refine qM ?_ ?_));all_goals (first|(rw [hk2];rfl)|(rw [hk2])|(rw [hk,hfd,List.take_of_length_le (by simp)];simp [qi])));(case ghs=>(repeat (first|exact qr|refine jT ?_|refine jb ?_ ?_));all_goals (first|(rw [hk2];rfl)|(rw [hk2])|(rw [hk,hfd,List.take_of_length_le (by simp)];simp [qi])))
  ·have hc:¬ p[i] = 47:=fun e=>by rw [e] at hp;simp at hp
   obtain ⟨hk,hk2⟩:=hs2 hc
   refine ⟨p.length - (i + 1),_,by omega,je (τ:=⟨[(0,.v (str p)),(3,.os 0 0 (Jj p (i + 1)).length),(4,.v (.int .i64 ((fromN p (i + 1):Nat):Int))),(5,.v (.int .i64 ((i + 1:Nat):Int)))],[(0,.own false 1 ((Jj p (i + 1)).map qi))],1⟩) [(0,0)] rfl ?gts ?ghs,i + 1,by omega,rfl,trivial,rfl⟩;(case gts=>(repeat (first|exact qd|refine qn ?_|refine xd ?_|refine vH ?_|refine qM ?_ ?_));all_goals (first|(rw [hk2];rfl)|(rw [hk2])|(rw [hk])));(case ghs=>(repeat (first|exact qr|refine jT ?_|refine jb ?_ ?_));all_goals (first|(rw [hk2];rfl)|(rw [hk2])|(rw [hk])))
 obtain rfl:i = p.length:=by omega
 obtain ⟨hfl,hfd⟩:=Ye hi
 generalize hF:fromN p p.length = fr at hfl hfd ⊢
 repeat' (first|refine qj ?_|(first|(apply qh;apply j0 (a:=fr) (b:=p.length);(case hx=>rfl);(case hT=>rfl);(case he=>rfl);(case ha=>exact ⟨_,rfl⟩);(case hb=>rfl);(case hab=>(first|omega|(simp;done)|(simp only [List.length_cons,List.length_nil,List.length_map];omega)|(simp;omega)));(case hbl=>(first|omega|(simp;done)|(simp only [List.length_cons,List.length_nil,List.length_map];omega)|(simp;omega)));(case hN=>exact nle rfl))|(refine jr ?_)|(refine xt ?_))|((first|refine xsC ?_ ?_);all_goals (intro hc;have hp:=hc;try simp at hp;try (exfalso;omega)))|refine qD ?_ ?_)
 all_goals try (exfalso;omega)
 have hall:Jj p p.length ++ [qP p] = qc p:=by unfold Jj;rw [List.take_length];exact (yX p).1.symm
 rw [List.take_length] at hfd
 (refine xV (rs:=[.tmp 2]) ?_;(repeat' (first|exact qS|apply qw|exact qK rfl|exact yH|exact k9|apply j4|apply xo|apply jN|apply xu|apply yy|apply xx|refine wj ?_|apply vM));all_goals (rw [← hall,List.take_of_length_le (by simp),List.take_length,hfd];simp [qi]))
theorem xY (p:qv):(qc p).length ≤ p.length + 1:=by
 rw [vo]
 have:p.count 47 ≤ p.length:=List.count_le_length
 omega
theorem JX (p:qv) (hp:p.length ≤ 4000000000):yc C.P 21 [.v (str p)] (.v (.bool (qN p))):=by
 have hn:=vz p hp
 have htg:qN p = (decide (6 < (qc p).length) || decide (80 < p.length)):=rfl
 refine qa Tryd.func21 rfl _ Tryd.ntmps21 (Nat.le_of_ble_eq_true rfl) _ Tryd.results21 0 rfl rfl ?_
 repeat' (first|refine qj ?_|(first|refine jV Tryd.func19 (hn ..) ?_)|((first|refine qe ?_ ?_|refine qf ?_ ?_|refine xsC ?_ ?_);all_goals (intro hc;have hp:=hc;try simp at hp;try (exfalso;omega)))|refine qD ?_ ?_)
 all_goals (apply q8;rfl;rw [htg])
 all_goals first
  | (have h6:¬ 6 < (qc p).length:=(by omega)
     simp [h6];done)
  | (have h6:6 < (qc p).length:=(by omega)
     simp [h6];done)
  | (have h6:¬ 6 < (qc p).length:=(by omega)
     simp [h6];omega)
theorem zM (p:qv) (hp:p.length ≤ 4000000000):yc C.P 7 [.v (str p)] (.v (.int .i64 (qg p))):=by
 have hn:=vz p hp
 have hg:=JX p hp
 have hpe:qg p = if (qc p).all qH = true then (if qN p = true then 2 else 0) else 1:=rfl
 have hsh : ∀ n,n ∈ qc p → n.length ≤ p.length:=fun n h=>vN h
 have hmn:=xY p
 generalize qg p = E at hpe ⊢
 generalize qc p = L at hn hpe hsh hmn
 refine qa Tryd.func7 rfl _ Tryd.ntmps7 (Nat.le_of_ble_eq_true rfl) _ Tryd.results7 0 rfl rfl ?_
 repeat' (first|refine qj ?_|(first|refine jV Tryd.func19 (hn ..) ?_)|((first|refine xsC ?_ ?_);all_goals (intro hc;have hp:=hc;try simp at hp;try (exfalso;omega)))|refine qD ?_ ?_)
 (refine Awp.red (ql (ts:=[(0,.v (str p)),(3,.sl false (L.map qi)),(4,.v (.int .i64 ((0:Nat):Int)))]) ?_) ?_;((repeat (first|exact qd|refine qn ?_|refine qM ?_ ?_))))
 refine qy (fun n σ => ∃ i:Nat,i ≤ L.length ∧ n = L.length - i ∧ (∀ x,x ∈ L.take i → qH x = true) ∧ σ = ⟨[(0,.v (str p)),(3,.sl false (L.map qi)),(4,.v (.int .i64 (i:Int)))],[],C.nh⟩) L.length ⟨0,Nat.zero_le _,rfl,(by simp),rfl⟩ ?_
 rintro n σ ⟨i,hi,rfl,hsofar,rfl⟩
 by_cases hlt:i < L.length
 ·have hr:=qL (f:=qi) hlt
  have hnm:=Yu L[i] (by have:=hsh L[i] (List.getElem_mem hlt);omega)
  repeat' (first|refine qj ?_|(first|refine jH Tryd.func20 (hnm ..) ?_)|((first|refine xsC ?_ ?_);all_goals (intro hc;have hp:=hc;try simp at hp;try (exfalso;omega)))|refine qD ?_ ?_)
  all_goals try (exfalso;omega)
  ·apply qC
   rfl
   have hall:¬ L.all qH = true:=fun h=>by
    have:=List.all_eq_true.1 h L[i] (List.getElem_mem hlt)
    simp_all
   rw [hpe,if_neg hall]
  ·refine ⟨L.length - (i + 1),_,by omega,ql (ts:=[(0,.v (str p)),(3,.sl false (L.map qi)),(4,.v (.int .i64 ((i + 1:Nat):Int)))]) ?_,i + 1,by omega,rfl,qY hlt hsofar (by assumption),rfl⟩;((repeat (first|exact qd|refine qn ?_|refine qM ?_ ?_)))
 obtain rfl:i = L.length:=by omega
 rw [List.take_length] at hsofar
 have hall:L.all qH = true:=List.all_eq_true.2 hsofar
 rw [if_pos hall] at hpe
 repeat' (first|refine qj ?_|(first|refine jH Tryd.func21 (hg ..) ?_)|((first|refine xsC ?_ ?_);all_goals (intro hc;have hp:=hc;try simp at hp;try (exfalso;omega)))|refine qD ?_ ?_)
 all_goals try (exfalso;omega)
 all_goals (apply qC;rfl;simp_all)
end Go.Proofs.YtnhpclmbhbblbaaDoor
set_option linter.unusedSimpArgs false
set_option linter.unnecessarySimpa false
set_option maxHeartbeats 1000000
namespace Go.Proofs.YtnhpclmbhbblbaaDoor
open Go.Ab Go.RowKit
set_option maxRecDepth 10000
attribute [local irreducible] Awp jk qG q9 Red qp Go.Ab.Fin qx Rz yS qX qT ResOk jp jd jG qR
theorem zS (l:List qv) (i:Nat):(jg (l.take i)).length ≤ (jg l).length:=by
 by_cases h1:l.take i = []
 ·rw [h1];simp [jg]
 ·by_cases h2:l.drop i = []
  ·have:=List.take_append_drop i l
   rw [h2,List.append_nil] at this
   rw [this];exact Nat.le_refl _
  ·have h3:=x3 h1 h2
   rw [List.take_append_drop] at h3
   rw [h3];simp
theorem JL {l:List qv} {i:Nat} (h:i < l.length):l[i].length ≤ (jg l).length:=by
 have h1:=zS l (i + 1)
 by_cases h0:i = 0
 ·subst h0
  rw [zj h] at h1;exact h1
 ·rw [zT h (by omega)] at h1
  simp at h1;omega
theorem Xs (l:List qv) (hl:l.length ≤ 8000000000) (hp:(jg l).length ≤ 8000000000):yc C.P 35 [.sl false (l.map qi)] (.v (str (jg l))):=by
 refine qa Tryd.func35 rfl _ Tryd.ntmps35 (Nat.le_of_ble_eq_true rfl) _ Tryd.results35 0 rfl rfl ?_
 repeat' (first|refine qj ?_|fail|((first|refine xsC ?_ ?_);all_goals (intro hc;have hp:=hc;try simp at hp;try (exfalso;omega)))|refine qD ?_ ?_)
 (refine Awp.red (ql (ts:=[(0,.sl false (l.map qi)),(3,.v (str (jg (l.take 0)))),(4,.v (.int .i64 ((0:Nat):Int)))]) ?_) ?_;((repeat (first|exact qd|refine qn ?_|refine qM ?_ ?_))))
 refine qy (fun n σ => ∃ i:Nat,i ≤ l.length ∧ n = l.length - i ∧ (True) ∧ σ = ⟨[(0,.sl false (l.map qi)),(3,.v (str (jg (l.take i)))),(4,.v (.int .i64 (i:Int)))],[],C.nh⟩) l.length ⟨0,Nat.zero_le _,rfl,trivial,rfl⟩ ?_
 rintro n σ ⟨i,hi,rfl, -,rfl⟩
 by_cases hlt:i < l.length
 ·have hr:=qL (f:=qi) hlt
  have hb1:=zS l i
  have hb2:=JL hlt
  have hs0 := @zT l i hlt
  have hf0 := @zj l (by omega)
  repeat' (first|refine qj ?_|(first|(apply qh;apply zZ;rfl;rfl;(simp only [List.length_append,List.length_cons,List.length_nil];omega);exact nle rfl))|((first|refine xsC ?_ ?_);all_goals (intro hc;have hp:=hc;try simp at hp;try (exfalso;omega)))|refine qD ?_ ?_)
  all_goals try (exfalso;omega)
  ·refine ⟨l.length - (i + 1),_,by omega,ql (ts:=[(0,.sl false (l.map qi)),(3,.v (str (jg (l.take (i + 1))))),(4,.v (.int .i64 ((i + 1:Nat):Int)))]) ?_,i + 1,by omega,rfl,trivial,rfl⟩;((repeat (first|exact qd|refine qn ?_|refine qM ?_ ?_));all_goals (rw [hs0 (by omega)]))
  ·have h0:i = 0:=by omega
   have hf1:jg (l.take (i + 1)) = l[i]:=by subst h0;exact hf0
   refine ⟨l.length - (i + 1),_,by omega,ql (ts:=[(0,.sl false (l.map qi)),(3,.v (str (jg (l.take (i + 1))))),(4,.v (.int .i64 ((i + 1:Nat):Int)))]) ?_,i + 1,by omega,rfl,trivial,rfl⟩;((repeat (first|exact qd|refine qn ?_|refine qM ?_ ?_));all_goals (rw [hf1];subst h0;rfl))
 obtain rfl:i = l.length:=by omega
 rw [List.take_length]
 repeat' (first|refine qj ?_|fail|((first|refine xsC ?_ ?_);all_goals (intro hc;have hp:=hc;try simp at hp;try (exfalso;omega)))|refine qD ?_ ?_)
 all_goals try (exfalso;omega)
 (exact zh (rs:=[.tmp 2]))
theorem wv (p:qv):0 < (qc p).length:=List.length_pos_iff.2 (jL p)
theorem vR (p:qv) (hp:p.length ≤ 4000000000):yc C.P 18 [.v (str p)] (.v (str (qm p))):=by
 have hn:=vz p hp
 have hm:=xY p
 have hpos:=wv p
 obtain ⟨h1,h2⟩:=yX p
 have hpl:(qm p).length ≤ p.length:=by simp [qm];omega
 have hpo:=Xs (qc p).dropLast (by rw [List.length_dropLast];omega) (by rw [h2];omega)
 rw [h2,List.dropLast_eq_take,List.map_take] at hpo
 have hrk : ∀ row,row ∈ (qc p).map qi → row.length = 1:=fun row hr=>by obtain ⟨x,_,rfl⟩:=List.mem_map.1 hr;rfl
 generalize qc p = L at hn hm hpos hpo hrk
 have hml:(L.map qi).length = L.length:=List.length_map ..
 refine qa Tryd.func18 rfl _ Tryd.ntmps18 (Nat.le_of_ble_eq_true rfl) _ Tryd.results18 0 rfl rfl ?_
 repeat' (first|refine qj ?_|(first|refine jV Tryd.func19 (hn ..) ?_|(apply qh;apply yI (ex':=false) (a:=0) (b:=L.length - 1) (m:=0);(case hx=>rfl);(case hT=>rfl);(case he=>rfl);(case hE=>rfl);(case ha=>rfl);(case hb=>exact ⟨_,kV (by omega)⟩);(case hm=>trivial);(case hab=>(first|omega|(simp;done)|(simp only [List.length_cons,List.length_nil,List.length_map];omega)|(simp;omega)));(case hbl=>(first|omega|(simp;done)|(simp only [List.length_cons,List.length_nil,List.length_map];omega)|(simp;omega)));(case hrk=>exact hrk);(case hex=>exact nofun);(case hN=>exact nle rfl))|refine jV Tryd.func35 (hpo ..) ?_)|((first|refine xsC ?_ ?_);all_goals (intro hc;have hp:=hc;try simp at hp;try (exfalso;omega)))|refine qD ?_ ?_)
 (exact zh (rs:=[.tmp 2]))
theorem Y9 (p:qv) (hp:p.length ≤ 4000000000):yc C.P 24 [.v (str p)] (.v (str (qP p))):=by
 have hn:=vz p hp
 have hm:=xY p
 have hpos:=wv p
 obtain ⟨h1,h2⟩:=yX p
 have hlast : ∀ h:(qc p).length - 1 < (qc p).length,(qc p)[(qc p).length - 1] = qP p:=fun h=>by
  have h3:(qc p)[(qc p).length - 1]? = some (qP p):=by
   generalize (qc p).dropLast = X at h1
   rw [h1];simp
  rw [List.getElem?_eq_getElem h] at h3
  exact Option.some.inj h3
 generalize qc p = L at hn hm hpos hlast
 have hlt:L.length - 1 < L.length:=by omega
 have hr:=qL (f:=qi) hlt
 rw [hlast hlt] at hr
 have hml:(L.map qi).length = L.length:=List.length_map ..
 refine qa Tryd.func24 rfl _ Tryd.ntmps24 (Nat.le_of_ble_eq_true rfl) _ Tryd.results24 0 rfl rfl ?_
 repeat' (first|refine qj ?_|(first|refine jV Tryd.func19 (hn ..) ?_|(apply qh;apply ya (i:=L.length - 1);(case hx=>rfl);(case hy=>exact kV (by omega));(case hT=>rfl);(case he=>rfl);(case hE=>rfl);(case hr=>exact hr);(case hk=>rfl);(case hN=>exact nle rfl)))|((first|refine xsC ?_ ?_);all_goals (intro hc;have hp:=hc;try simp at hp;try (exfalso;omega)))|refine qD ?_ ?_)
 (exact zh (rs:=[.tmp 2]))
end Go.Proofs.YtnhpclmbhbblbaaDoor
set_option linter.unusedSimpArgs false
set_option linter.unnecessarySimpa false
set_option maxHeartbeats 1000000
namespace Go.Proofs.YtnhpclmbhbblbaaDoor
open Go.Ab Go.RowKit
set_option maxRecDepth 10000
attribute [local irreducible] Awp jk qG q9 Red qp Go.Ab.Fin qx Rz yS qX qT ResOk jp jd jG qR
theorem Vf (s:qv):yc C.P 45 [.v (str s)] (.v (.bool false)):=by
 refine qa Tryd.func45 rfl _ Tryd.ntmps45 (Nat.le_of_ble_eq_true rfl) _ Tryd.results45 0 rfl rfl ?_
 repeat' (first|refine qj ?_|fail|((first|refine xsC ?_ ?_);all_goals (intro hc;have hp:=hc;try simp at hp;try (exfalso;omega)))|refine qD ?_ ?_)
 all_goals (apply q8;rfl;simp)
theorem YM (a b:qv):yc C.P 31 [.v (str a),.v (str b)] (.v (.int .i64 (xn a b))):=by
 refine qa Tryd.func31 rfl _ Tryd.ntmps31 (Nat.le_of_ble_eq_true rfl) _ Tryd.results31 0 rfl rfl ?_
 repeat' (first|refine qj ?_|(first|refine jH Tryd.func45 (Vf ..) ?_)|((first|refine xsC ?_ ?_);all_goals (intro hc;have hp:=hc;try simp at hp;try (exfalso;omega)))|refine qD ?_ ?_)
 all_goals (apply qC;rfl;simp_all [xn])
theorem kp (n:Int):yc C.P 37 [.v (.int .i64 n)] (.v (.bool (yD n))):=by
 refine qa Tryd.func37 rfl _ Tryd.ntmps37 (Nat.le_of_ble_eq_true rfl) _ Tryd.results37 0 rfl rfl ?_
 repeat' (first|refine qj ?_|fail|((first|refine qe ?_ ?_|refine qf ?_ ?_|refine xsC ?_ ?_);all_goals (intro hc;have hp:=hc;try simp at hp;try (exfalso;omega)))|refine qD ?_ ?_)
 all_goals (apply q8;rfl;simp_all [yD];try (intro _;omega))
theorem Xz (n:Int):yc C.P 17 [.v (.int .i64 n)] (.v (.bool (yD n))):=by
 refine qa Tryd.func17 rfl _ Tryd.ntmps17 (Nat.le_of_ble_eq_true rfl) _ Tryd.results17 0 rfl rfl ?_
 repeat' (first|refine qj ?_|fail|((first|refine qe ?_ ?_|refine qf ?_ ?_|refine xsC ?_ ?_);all_goals (intro hc;have hp:=hc;try simp at hp;try (exfalso;omega)))|refine qD ?_ ?_)
 all_goals (apply q8;rfl;simp_all [yD];try (intro _;omega))
theorem wS (e:Ent) (he:e.small):yc C.P 40 [.agg e.row] (.v (.int .i64 (ju e))):=by
 have h1:=he.1
 have h2:=he.2
 have hp:=v2 e.path (by omega)
 have hv:=kp e.ver
 have hE:ju e = if qg e.path = 0 then (if e.fold = true ∧ ¬ e.text = [] then 1 else if 300 < e.text.length then 2 else if yD e.ver = true then 0 else 3) else qg e.path:=rfl
 generalize ju e = E at *
 generalize yD e.ver = V at *
 generalize qg e.path = F at *
 refine qa Tryd.func40 rfl _ Tryd.ntmps40 (Nat.le_of_ble_eq_true rfl) _ Tryd.results40 0 rfl rfl ?_
 repeat' (first|refine qj ?_|(first|refine jH Tryd.func13 (hp ..) ?_|refine jH Tryd.func37 (hv ..) ?_)|((first|refine qe ?_ ?_|refine qf ?_ ?_|refine xsC ?_ ?_);all_goals (intro hc;have hp:=hc;try simp at hp;try (exfalso;omega)))|refine qD ?_ ?_)
 all_goals try (exfalso;omega)
 all_goals (apply qC;rfl;rw [hE];simp_all;try omega)
theorem YT (e:Ent) (p:qv):yc C.P 30 [.agg e.row,.v (str p)] (.v (.int .i64 (xn e.path p))):=by
 refine qa Tryd.func30 rfl _ Tryd.ntmps30 (Nat.le_of_ble_eq_true rfl) _ Tryd.results30 0 rfl rfl ?_
 repeat' (first|refine qj ?_|(first|refine jH Tryd.func31 (YM ..) ?_)|((first|refine xsC ?_ ?_);all_goals (intro hc;have hp:=hc;try simp at hp;try (exfalso;omega)))|refine qD ?_ ?_)
 all_goals (apply qC;rfl;rfl)
theorem Yf (l:List Ent) (p:qv) (hl:l.length ≤ 1000000000) (hs:qV jm l = true) :
  yc C.P 29 [qo l,.v (str p),.clo (.func 30) [] []] (.tup [.v (.int .i64 (jC l p)),.v (.bool (jY l p))]):=by
 refine qa Tryd.func29 rfl _ Tryd.ntmps29 (Nat.le_of_ble_eq_true rfl) _ Tryd.results29 0 rfl rfl ?_
 repeat' (first|refine qj ?_|fail|((first|refine qe ?_ ?_|refine qf ?_ ?_|refine xsC ?_ ?_);all_goals (intro hc;have hp:=hc;try simp at hp;try (exfalso;omega)))|refine qD ?_ ?_)
 (refine Awp.red (ql (ts:=[(0,qo l),(1,.v (str p)),(2,.clo (.func 30) [] []),(8,.v (.int .i64 l.length)),(9,.v (.int .i64 ((0:Nat):Int))),(10,.v (.int .i64 l.length))]) ?_) ?_;((repeat (first|exact qd|refine qn ?_|refine qM ?_ ?_))))
 all_goals try (rw [List.length_map];done)
 refine qy (fun n σ => ∃ lo hi:Nat,lo ≤ hi ∧ hi ≤ l.length ∧ n = hi - lo ∧ (∀ (k:Nat) (h:k < l.length),k < lo → Op.bytesLess l[k].path p = true) ∧ (∀ (k:Nat) (h:k < l.length),hi ≤ k → Op.bytesLess l[k].path p = false) ∧ σ = ⟨[(0,qo l),(1,.v (str p)),(2,.clo (.func 30) [] []),(8,.v (.int .i64 l.length)),(9,.v (.int .i64 ((lo:Nat):Int))),(10,.v (.int .i64 ((hi:Nat):Int)))],[],C.nh⟩) l.length ⟨0,l.length,by omega,Nat.le_refl _,rfl,fun _ _ h=>absurd h (by omega),fun _ _ h=>absurd h (by omega),rfl⟩ ?_
 rintro n σ ⟨lo,hi,hle,hhi,rfl,h1,h2,rfl⟩
 by_cases hlt:lo < hi
 ·obtain ⟨m,hm⟩ : ∃ m:Nat,m = (lo + hi) / 2:=⟨_,rfl⟩
  have hmi:((lo:Int) + (hi:Int)) / 2 = (m:Int):=by omega
  have hml:m < l.length:=by omega
  have hr:=qL (f:=Ent.row) hml
  have hr2:(l.map Ent.row)[(((lo:Int) + (hi:Int)) / 2).toNat]? = some l[m].row:=by rw [hmi];exact hr
  repeat' (first|refine qj ?_|(first|(apply qh;first|(apply YD;rfl;rfl;rfl;rfl;rfl;omega;omega;exact nle rfl)|(apply Yp;rfl;rfl;rfl;rfl;rfl;omega;omega;exact nle rfl))|(apply qh;apply Vk;(case hx=>rfl);(case hy=>rfl);(case hk=>decide);(case hN=>exact nle rfl))|(refine Qn Tryd.func30 (YT ..) ?_))|((first|refine qe ?_ ?_|refine qf ?_ ?_|refine xsC ?_ ?_);all_goals (intro hc;have hp:=hc;try simp at hp;try (exfalso;omega)))|refine qD ?_ ?_)
  all_goals try (exfalso;omega)
  ·have hmg:Op.bytesLess l[m].path p = true:=(kL _ _).1 hp
   refine ⟨hi - (m + 1),_,by omega,ql (ts:=[(0,qo l),(1,.v (str p)),(2,.clo (.func 30) [] []),(8,.v (.int .i64 l.length)),(9,.v (.int .i64 ((m + 1:Nat):Int))),(10,.v (.int .i64 ((hi:Nat):Int)))]) ?_,m + 1,hi,by omega,hhi,rfl,fun k h hk=>?_,h2,rfl⟩
   · (repeat (first|exact qd|refine qn ?_|refine qM ?_ ?_))
     all_goals (rw [hmi];rfl)
   ·by_cases e:k = m
    ·subst e;exact hmg
    ·exact yB (y2 hs k m h hml (by omega)) hmg
  ·have hmg:Op.bytesLess l[m].path p = false:=(by
    cases h:Op.bytesLess l[m].path p
    ·rfl
    ·have:=(kL _ _).2 h;omega)
   refine ⟨m - lo,_,by omega,ql (ts:=[(0,qo l),(1,.v (str p)),(2,.clo (.func 30) [] []),(8,.v (.int .i64 l.length)),(9,.v (.int .i64 ((lo:Nat):Int))),(10,.v (.int .i64 ((m:Nat):Int)))]) ?_,lo,m,by omega,by omega,rfl,h1,fun k h hk=>?_,rfl⟩
   · (repeat (first|exact qd|refine qn ?_|refine qM ?_ ?_))
     all_goals (rw [hmi])
   ·by_cases e:k = m
    ·subst e;exact hmg
    ·cases hkg:Op.bytesLess l[k].path p
     ·rfl
     ·rw [yB (y2 hs m k hml h (by omega)) hkg] at hmg;cases hmg
 obtain rfl:lo = hi:=by omega
 have hpos:jC l p = lo:=wW hhi h1 (fun h=>h2 lo h (by omega))
 by_cases hin:lo < l.length
 ·have hr:=qL (f:=Ent.row) hin
  have hhit:jY l p = decide (xn l[lo].path p = 0):=by
   rw [QO hs,hpos,List.getElem?_eq_getElem hin]
  repeat' (first|refine qj ?_|(first|(refine Qn Tryd.func30 (YT ..) ?_))|((first|refine qe ?_ ?_|refine qf ?_ ?_|refine xsC ?_ ?_);all_goals (intro hc;have hp:=hc;try simp at hp;try (exfalso;omega)))|refine qD ?_ ?_)
  all_goals try (exfalso;omega)
  rw [hpos,hhit]
  (exact zh (rs:=[.tmp 6,.tmp 7]))
 ·have hhit:jY l p = false:=by
   rw [QO hs,hpos,List.getElem?_eq_none (by omega)]
  repeat' (first|refine qj ?_|(first|(refine Qn Tryd.func30 (YT ..) ?_))|((first|refine qe ?_ ?_|refine qf ?_ ?_|refine xsC ?_ ?_);all_goals (intro hc;have hp:=hc;try simp at hp;try (exfalso;omega)))|refine qD ?_ ?_)
  all_goals try (exfalso;omega)
  rw [hpos,hhit]
  (exact zh (rs:=[.tmp 6,.tmp 7]))
theorem Xk (l:List Ent) (p:qv) (hl:l.length ≤ 1000000000) (hs:qV jm l = true) :
  yc C.P 14 [qo l,.v (str p)] (.tup [.v (.int .i64 (jC l p)),.v (.bool (jY l p))]):=by
 have hse:=Yf l p hl hs
 refine qa Tryd.func14 rfl _ Tryd.ntmps14 (Nat.le_of_ble_eq_true rfl) _ Tryd.results14 0 rfl rfl ?_
 repeat' (first|refine qj ?_|(first|refine jV Tryd.func29 (hse ..) ?_)|((first|refine xsC ?_ ?_);all_goals (intro hc;have hp:=hc;try simp at hp;try (exfalso;omega)))|refine qD ?_ ?_)
 (exact zh (rs:=[.tmp 4,.tmp 5]))
end Go.Proofs.YtnhpclmbhbblbaaDoor
