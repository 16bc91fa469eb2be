import Derived.Test.YtamejbkifpjhiaaGreatDoorMz19
import Derived.Test.YtamejbkifpjhiaaGreatDoorMz22
import Derived.Lib.SlMapMerge
import Derived.WalkKit
import Derived.Maps.Ext
import Derived.Maps.RangeWalk
import Derived.Laws.IdiomRangeMap
set_option linter.unusedSimpArgs false
set_option linter.unusedVariables false
namespace Go.Proofs.YtamejbkifpjhiaaGreatDoor
open Go.Ab Go.RowKit Go.Maps Go.Sort
set_option maxHeartbeats 4000000 in
set_option maxRecDepth 100000 in
theorem qdI (bd bs nd ns:Nat) (Dd Ds:DataW Value) (w:World) (hd:w.ownsMap Tryz.prog 9 vi bd nd Dd) (hs:w.ownsMap Tryz.prog 9 vi bs ns Ds) (hne:bd ≠ bs) (hroom:nd + Maps.size Ds ≤ maxLen)
  (hsv : ∀ kl v,(∀ z,Ds.atKey kl z = .held v) → ∃ a s,v = .agg #[.int .i64 a,.string s]) :
  Calls Tryz.prog 113 #[.map (some bd),.map (some bs)] w fun e w'=>e = .returned (.tuple #[]) ∧
   (∃ n Dout,w'.ownsMap Tryz.prog 9 vi bd n Dout ∧ ∀ k,Maps.has Dout k = (Maps.has Dd k || Maps.has Ds k)) ∧ w.grownBy w' (some bd):=by
 have K:Keyed Tryz.prog 9:=string_keyed Tryz.underlying9
 have hbd:=hd.lt
 have hbs:=hs.lt
 go_enter Tryz.func113,Tryz.ntmps113
 go_wp2_with (first
  | (at_range;refine wpList_range_own _ rfl _ 104 rfl 9 163 K Tryz.underlying104 vi bs ns _ rfl hs ?_;intro w0 hrg0 hg0 hs0)
  | go_in)
 go_frame
 go_loopw [8] (fun _ wr => ∃ (left:Lit → Bool) (cnt:Nat) (Dout:DataW Value),wr.ranges Tryz.prog 9 vi bs w.heap.size ns Ds left cnt ∧ cnt ≤ Maps.size Ds ∧
   wr.ownsMap Tryz.prog 9 vi bd (nd + (Maps.size Ds - cnt)) Dout ∧ Merged Dout Dd Ds left ∧ w.grownBy wr (some bd))
  (fun _ wr=>wr.rangeLeft bs w.heap.size)
 case atStart =>
  exact ⟨_,_,Dd,hrg0,Nat.le_refl _,(hd.kept hg0 (by simp)).mono (by omega),merged_start Dd Ds,hg0.but _⟩
 case round =>
  obtain ⟨left,cnt,Dout,hrg,hcs,hout,hM,hgw⟩:=hrel
  go_wp2_with (first
   | (at_next;refine wpList_next_ranges _ rfl _ rfl 9 K vi id id (fun key _ _=>⟨key,rfl⟩) (fun v _ _=>⟨v,rfl⟩) bs w.heap.size ns _ _ _ rfl hrg ?_ ?_)
   | go_in)
  ·intro hc0 hl0
   go_wp2
   go_end0
   refine ⟨rfl,⟨_,Dout,hout,fun k=>?_⟩,hgw⟩
   have:=hM.1 k
   rw [hl0] at this
   simpa using this
  ·intro x c kl yd yp w1 cnt1 hkey hlx hv hat hrg1 hlt hg1 hs1 hen
   have hyd:yd = .held c:=by
    have:(some (DataW.held c,([]:List MemPlace))) = some (yd,yp):=hv
    exact (congrArg Prod.fst (Option.some.inj this)).symm
   obtain ⟨ca,cs,rfl⟩:=hsv kl c (fun z=>by rw [hat z,hyd])
   have hout1:=hout.kept hg1 (fun e=>by have:=Option.some.inj e;omega)
   have hall : ∀ o:Obj,(w1.alloc o).ownsMap Tryz.prog 9 vi bd (nd + (Maps.size Ds - cnt)) Dout:=fun o=>hout1.alloc o
   go_wp2_with (first
    | (at_mapUpdate;refine wpList_mapUpdate_own _ rfl _ _ _ 104 rfl 9 163 K Tryz.underlying104 vi bd _ _ rfl (hall _) (by omega) _ _ _ rfl rfl hkey yd yp hv ?_;intro w2 hout2 hg2;go_frame)
    | go_in)
   have hal:=hrg1.alloc (.cells #[Value.int IntKind.i64 ca,Value.string cs] 163)
   have hrg2:=hal.kept hg2 (fun e=>hne (Option.some.inj e).symm) (fun e=>by have:=Option.some.inj e;omega)
   go_roundw
   case rel =>
    exact ⟨_,cnt1,_,hrg2,by omega,hout2.mono (by omega),merged_step hM hout.isMap (K.key hkey) hat,((hgw.andThen hg1 (fun j hj => .inl (by cases hj;exact Nat.le_refl _))).andThen (World.grownBy_alloc w1 _ none) (fun j hj=>by cases hj)).andThen hg2 (fun j hj => .inr hj)⟩
   case measure=>rw [hrg2.left_eq,hrg.left_eq];exact hlt
theorem qfJ {F:Still} {ρ:Places} {v:Value} {x:Thg} (h:M F ρ v (xI x)) : ∃ a s,v = .agg #[.int .i64 a,.string s]:=by
 obtain ⟨vs,rfl,h1,h2⟩:=h.agg_inv
 match vs,h1,h2 with
 | [u,z],_,h2 =>
   have a1:=(h2 0 u _ rfl rfl).v_inv.1
   have a2:=(h2 1 z _ rfl rfl).v_inv.1
   subst a1;subst a2
   exact ⟨_,_,rfl⟩
theorem qas (ks ks' : List qP) (T:List Ent) (hnd:ks.Nodup) (hnd' : ks'.Nodup) (hm : ∀ x,x ∈ ks' ↔ x ∈ ks ∨ x ∈ T.map Ent.path) (hl:ks.length ≤ 1000000) (hlT:T.length ≤ 1000000) (hk : ∀ s,s ∈ ks → s.length ≤ 1000000) (hkT : ∀ x,x ∈ T → x.path.length ≤ 1000000) :
  qZ C2.P 113 [.mp 0,.mp 1] [.mp (jk ks),.mp (qr T)] (.tup []) [.mp (jk ks'),.mp (qr T)]:=by
 intro B vs w hvs hN g
 obtain ⟨g1,_,F,ρ,hp,g4⟩:=g
 obtain ⟨v0,v1,rfl⟩ : ∃ v u,vs = [v,u]:=by
  match vs,hvs with
  | [v,u],_=>exact ⟨v,u,rfl⟩
 have hm0:M F ρ v0 (.mp 0):=g4 0
 have hm1:M F ρ v1 (.mp 1):=g4 1
 have ho0:OwnAt F ρ w 0 (.mp (jk ks)):=hp.own 0
 have ho1:OwnAt F ρ w 1 (.mp (qr T)):=hp.own 1
 obtain ⟨bd,rfl,hρ0⟩:=hm0.mp_inv
 obtain ⟨bs,rfl,hρ1⟩:=hm1.mp_inv
 obtain ⟨b',_,_,h5,h6,es,clock,rfl,l0,hperm,h78⟩:=ho0
 rw [hρ0] at h5;simp only [Option.some.injEq,Prod.mk.injEq] at h5
 obtain ⟨rfl,_⟩:=h5
 obtain ⟨b2,_,_,k5,k6,es1,clock1,rfl,l1,kperm,k78⟩:=ho1
 rw [hρ1] at k5;simp only [Option.some.injEq,Prod.mk.injEq] at k5
 obtain ⟨rfl,_⟩:=k5
 have hne:bd ≠ bs:=fun e=>hp.sep 0 1 bd _ _ (by decide) rfl rfl hρ0 (by rw [e];exact hρ1)
 have hml:(1000000:Nat) ≤ maxLen:=by unfold maxLen;omega
 have hku:=Tryz.underlying9
 have hks0 : ∀ x,x ∈ l0 → x.1.length ≤ maxLen:=fun x hx=>by
  obtain ⟨s,hs,rfl⟩:=List.mem_map.1 (hperm.mem_iff.1 hx)
  exact Nat.le_trans (hk s hs) hml
 have hks1 : ∀ x,x ∈ l1 → x.1.length ≤ maxLen:=fun x hx=>by
  obtain ⟨s,hs,rfl⟩:=List.mem_map.1 (kperm.mem_iff.1 hx)
  exact Nat.le_trans (hkT s hs) hml
 have hln0:l0.length = ks.length:=hperm.length_eq.trans (List.length_map ..)
 have hln1:l1.length = T.length:=kperm.length_eq.trans (List.length_map ..)
 have hsz:=k78.size hku
 have hnew:=hp.new 0 bd _ rfl hρ0
 have hnew1:=hp.new 1 bs _ rfl hρ1
 refine (qdI bd bs l0.length l1.length _ _ w (h78.owns hku (by omega) hks0 h6) (k78.owns hku (by omega) hks1 k6) hne (by rw [hsz];unfold maxLen;omega) (fun kl v hat=>by
  obtain ⟨x,hx,hmx⟩:=k78.elem hku hks1 hat
  obtain ⟨e,_,rfl⟩:=List.mem_map.1 (kperm.mem_iff.1 hx)
  exact qfJ hmx)).mono ?_
 rintro e w' ⟨rfl,⟨n,Dout,hown,hhas⟩,hg⟩
 refine ⟨_,rfl,?_⟩
 obtain ⟨es',clock',hbq,hAt⟩:=qaS (F:=F) (ρ:=ρ) hku hown hnd' (fun x=>by
  rw [hhas,Bool.or_eq_true,h78.has hku hks0,k78.has hku hks1,hm,(hperm.map (·.1)).mem_iff,(kperm.map (·.1)).mem_iff,Kq,v2])
 have hblk : ∀ b,b < w.heap.size → b ≠ bd → w'.heap[b]? = w.heap[b]?:=fun b h1 h2=>hg.block b h1 (fun e=>h2 (Option.some.inj e))
 have hkp:=hp.kept.grown hg (fun k hk=>by cases hk;exact hnew.2)
 refine ⟨g1,rfl,F,ρ,?_,fun i=>?_⟩
 ·refine { kept:=⟨hkp.os,hkp.tape,hkp.output,hkp.size,hkp.block⟩,agree:=fun b o hF=>?_,grow:=hp.grow,fresh:=hp.fresh,names:=hp.names,dom:=fun _ _=>trivial,own:=fun i=>?_,new:=fun i b c ho hn=>?_,sep:=fun i j b c c' hne ho ho' hn hn'=>?_ }
  ·rw [hblk b (Array.getElem?_eq_some_iff.1 (hp.agree b o hF)).1 (fun e=>by rw [e,hnew.1] at hF;cases hF)];exact hp.agree b o hF
  ·match i with
   | 0=>exact ⟨bd,_,_,hρ0,hbq,es',clock',rfl,hAt⟩
   | 1 =>
     refine ⟨bs,_,_,hρ1,?_,es1,clock1,rfl,l1,kperm,k78⟩
     rw [hblk bs (Array.getElem?_eq_some_iff.1 k6).1 (fun e=>hne e.symm)];exact k6
   | i + 2=>trivial
  ·match i with
   | 0=>exact hp.new 0 b c rfl hn
   | 1=>exact hp.new 1 b c rfl hn
   | i + 2=>cases ho
  ·have h2 : ∀ i:Nat,((fun i=>([HB.mp (jk ks'),.mp (qr T)]:List HB).getD i .dead) i).isOwn = true → (([HB.mp (jk ks),.mp (qr T)]:List HB).getD i .dead).isOwn = true:=fun i h=>by
    match i with
    | 0=>rfl
    | 1=>rfl
    | i + 2=>cases h
   exact hp.sep i j b c c' hne (h2 i ho) (h2 j ho') hn hn'
 ·by_cases hi:i = 0
  ·subst hi;exact .tup _ [] [] rfl fun i u y hu=>by simp at hu
  ·unfold one;rw [if_neg hi];exact .junk _ _
end Go.Proofs.YtamejbkifpjhiaaGreatDoor
