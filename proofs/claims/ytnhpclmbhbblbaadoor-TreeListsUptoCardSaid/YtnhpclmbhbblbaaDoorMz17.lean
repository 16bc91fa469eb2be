import Derived.Test.YtnhpclmbhbblbaaDoorMz16
import Derived.Sort.Grow
set_option linter.unusedSimpArgs false
set_option linter.unusedVariables false
namespace Go.Ab
open Go.RowKit Go.Sort
theorem vu {w:World} {n b off:Nat} {d:Array (List UInt8)} {os:Array Obj}:(grow (Go.Sort.putRow Go.Proofs.encStr (Sort.ahead w n) b off d) os).heap = (w.heap.modify b (onCells (putCells Go.Proofs.encStr off d))) ++ os:=rfl
theorem X3 (ss:List (List UInt8)):(ss.mergeSort fun x y=>decide (x ≤ y)) = ss.mergeSort leB:=rfl
theorem JV {P:Program} {f:FuncId} {ex:Bool} {ss:List (List UInt8)} (hl:ss.length < 4611686018427387904)
  (hc : ∀ (blk off cap:Nat) (w:World),Holds Go.Proofs.encStr w blk off ss.toArray → blk < w.heap.size → Calls P f #[.slice (some ⟨blk,off,none⟩) ss.length cap] w fun e w'=>e = .returned (.tuple #[]) ∧ ∃ n os,w' = grow (Go.Sort.putRow Go.Proofs.encStr (Sort.ahead w n) blk off (ss.mergeSort fun x y=>decide (x ≤ y)).toArray) os)
  (hn : ∀ (p:Option Addr) (cap:Nat) (w:World),Calls P f #[.slice p 0 cap] w fun e w'=>e = .returned (.tuple #[]) ∧ w' = w) :
  qx P f [.os 0 0 ss.length] [.own ex 1 (ss.map j1)] (.tup []) [.own ex 1 ((ss.mergeSort leB).map j1)]:=by
 intro B vs w hvs hN g
 obtain ⟨_,_,F,ρ,hp,g4⟩:=g
 have hm:=g4 0
 have ho:=hp.own 0
 obtain ⟨v0,rfl⟩ : ∃ v,vs = [v]:=by
  match vs,hvs with
  | [v],_=>exact ⟨v,rfl⟩
 have hm:M F ρ v0 (.os 0 0 ss.length):=hm
 have ho:OwnAt F ρ w 0 (.own ex 1 (ss.map j1)):=ho
 have htup : ∀ ρ',M F ρ' (.tuple #[]) (.tup []):=fun ρ' => .tup ρ' [] [] rfl (fun i v x h=>by cases i<;>cases h)
 have hone : ∀ ρ' i,M F ρ' ((#[Value.tuple #[]]:Array Value).getD i undef) (one (.tup []) i):=fun ρ' i=>by
  by_cases hi:i = 0
  ·subst hi;exact htup ρ'
  ·unfold one;rw [if_neg hi];exact .junk _ _
 by_cases h0:ss = []
 ·subst h0
  have hv : ∃ p c,v0 = .slice p 0 c:=by
   rcases hm.os_inv with ⟨_,_,_,ad,rfl⟩|⟨b,k,cap,a,_,rfl,_,_⟩
   ·exact ⟨_,_,rfl⟩
   ·exact ⟨_,_,rfl⟩
  obtain ⟨p,c,rfl⟩:=hv
  refine (hn p c w).mono ?_
  rintro e w' ⟨rfl,rfl⟩
  have hnil:([]:List (List UInt8)).mergeSort leB = []:=List.eq_nil_of_length_eq_zero (List.length_mergeSort _)
  rw [hnil]
  exact ⟨_,rfl,rfl,rfl,F,ρ, { kept:=⟨hp.kept.os,hp.kept.tape,hp.kept.output,hp.kept.size,hp.kept.block⟩,agree:=hp.agree,grow:=hp.grow,fresh:=hp.fresh,names:=hp.names,dom:=fun _ _=>trivial,own:=hp.own,new:=hp.new,sep:=hp.sep },hone ρ⟩
 have hpos:0 < ss.length:=Nat.pos_of_ne_zero fun h=>h0 (List.eq_nil_of_length_eq_zero h)
 rcases hm.os_inv with ⟨_,_,h,_⟩|⟨b,k,cap,a,hρ,rfl,hle,ha⟩
 ·omega
 obtain ⟨rfl,c,e,hb,hcs,hle2,hex,hR⟩:=qZ ho hρ
 obtain rfl:=ha (by omega)
 rw [List.length_map] at hle2 hex
 have hblt:b < w.heap.size:=(Array.getElem?_eq_some_iff.1 hb).1
 have hH:Holds Go.Proofs.encStr w b 0 ss.toArray:=fun j hj=>by
  have hj:j < ss.length:=by simpa using hj
  have hjc:j < c.size:=by omega
  constructor
  ·have h1:=hR.2 j 0 (j1 ss[j]) (.v (str ss[j])) c[j] (by rw [List.getElem?_map,List.getElem?_eq_getElem hj];rfl) rfl (by rw [Nat.mul_one,Nat.add_zero];exact Array.getElem?_eq_getElem hjc)
   have h2:c[j] = str ss[j]:=h1.v_inv.1
   unfold World.cell?
   simp only [hb]
   simp [hjc,h2,hj,Go.Proofs.encStr,str]
  ·unfold World.frozen?
   simp [hb]
 have hsl:ss.mergeSort leB = (ss.mergeSort fun x y=>decide (x ≤ y)):=rfl
 have hsn:(ss.mergeSort leB).length = ss.length:=List.length_mergeSort ss
 refine (hc b 0 (cap - 0) w hH hblt).mono ?_
 rintro e' w' ⟨rfl,n,os,rfl⟩
 rw [X3]
 generalize ss.mergeSort leB = S at *
 have hb' : (grow (Go.Sort.putRow Go.Proofs.encStr (Sort.ahead w n) b 0 S.toArray) os).heap[b]? = some (.cells (putCells Go.Proofs.encStr 0 S.toArray c) e (0,0)):=by
  rw [vu,Array.getElem?_append,if_pos (by simpa using hblt),Array.getElem?_modify,if_pos rfl,hb]
  rfl
 have hoth : ∀ b',b' < w.heap.size → b' ≠ b → (grow (Go.Sort.putRow Go.Proofs.encStr (Sort.ahead w n) b 0 S.toArray) os).heap[b']? = w.heap[b']?:=fun b' h1 h2=>by
  rw [vu,Array.getElem?_append,if_pos (by simpa using h1),Array.getElem?_modify,if_neg (fun h=>h2 h.symm)]
 have hnew:=hp.new 0 b (1,cap) rfl hρ
 have hw:=hp.write (w':=grow (Go.Sort.putRow Go.Proofs.encStr (Sort.ahead w n) b 0 S.toArray) os) 0 (some (b,1,cap)) (.own ex 1 (S.map j1)) none (some b) (.inr hρ)
  ⟨hp.kept.os,hp.kept.tape,hp.kept.output,by rw [vu,Array.size_append,Array.size_modify];exact Nat.le_trans hp.kept.size (Nat.le_add_right _ _),fun b' h1 h2=>by
   rw [hoth b' (Nat.lt_of_lt_of_le h1 hp.kept.size) (fun h=>by
    subst h
    rcases hnew.2 with h3|h3
    ·omega
    ·exact h2 h3)]
   exact hp.kept.block b' h1 h2⟩
  (fun b' h=>by injection h with h;subst h;exact ⟨0,(1,cap),.inl rfl,rfl,hρ⟩)
  (fun b' h1 h2=>hoth b' h1 (fun h=>h2 (by rw [h])))
  (fun b' c' h=>by simp only [Option.some.injEq,Prod.mk.injEq] at h;exact .inl (by rw [h.1]))
  (.inr ⟨b,cap,putCells Go.Proofs.encStr 0 S.toArray c,e,by simp,hb',by simp [putCells,hcs],by rw [List.length_map];omega,fun h=>by rw [List.length_map,hsn];exact hex h,fun row hrow=>by obtain ⟨s,_,rfl⟩:=List.mem_map.1 hrow;rfl,fun i j row x u hi hx hu=>by
   rw [List.getElem?_map] at hi
   obtain ⟨s,hs,rfl⟩:=Option.map_eq_some_iff.1 hi
   cases j with
   | succ j=>simp [j1] at hx
   | zero =>
     simp [j1] at hx
     subst hx
     have hil:i < S.length:=(List.getElem?_eq_some_iff.1 hs).1
     have hic:i < c.size:=by omega
     have hsi:=(List.getElem?_eq_some_iff.1 hs).2
     rw [Nat.mul_one,Nat.add_zero] at hu
     simp [putCells,hic,hil,hsi,Go.Proofs.encStr] at hu
     subst hu
     exact .v _ _ rfl⟩)
 have hfun:(fun i=>if i = 0 then HB.own ex 1 (S.map j1) else if (none:Option Nat) = some i then .dead else ([HB.own ex 1 (ss.map j1)]:List HB).getD i .dead) = fun i=>([HB.own ex 1 (S.map j1)]:List HB).getD i .dead:=by
  funext i
  cases i with
  | zero=>rfl
  | succ i=>simp
 rw [hfun] at hw
 exact ⟨_,rfl,rfl,rfl,F,_, { kept:=⟨hw.kept.os,hw.kept.tape,hw.kept.output,hw.kept.size,hw.kept.block⟩,agree:=hw.agree,grow:=hw.grow,fresh:=hw.fresh,names:=hw.names,dom:=fun _ _=>trivial,own:=hw.own,new:=hw.new,sep:=hw.sep },hone _⟩
end Go.Ab
