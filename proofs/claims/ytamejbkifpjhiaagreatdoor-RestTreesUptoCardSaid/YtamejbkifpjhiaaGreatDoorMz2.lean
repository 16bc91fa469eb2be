import Derived.Test.YtamejbkifpjhiaaGreatDoorMz0
import Derived.Lib.Overlaps
set_option linter.unusedSimpArgs false
set_option linter.unusedVariables false
namespace Go.Ab
open Go.RowKit
theorem Xz {P:Program} {w:World} (T xT ty e:TypeId) (k:IntKind) (i:TypeInfo) (z:Value) (ht:P.underlying T = some (.slice e)) (hxT:P.underlying xT = some (.int k)) (hi:P.info? e = some i) (hz:i.zero = some z) (base:Option Addr) (n cap m:Nat) (kx:IntKind) (olds:List Value)
  (ho : ∀ w',w'.heap = w.heap → (Builtin.firstCells i.size n (.slice base n cap)).run P w' = .ok olds.toArray w')
  (hg:cap < n + m) (hm:0 < m) (hs:i.size ≠ 0) (h63:n + m ≤ maxLen) (hb:(n + m) * i.bytes ≤ 140737488355328) :
  (Builtin.append_ #[T,xT] ty #[.slice base n cap,.int kx (m:Int)]).run P w = .ok (.slice (some ⟨w.heap.size,0,none⟩) (n + m) (grownCap w (n + m) cap e))
   (w.drew.alloc (.cells (olds.toArray ++ (Builtin.zeroCells z.cells m).toList.toArray ++ Builtin.zeroCells z.cells (grownCap w (n + m) cap e - (n + m))) e)):=by
 have hn:¬ (n + m ≤ cap):=by omega
 have h63a:n + m ≤ 9223372036854775807:=by simpa only [maxLen] using h63
 have h63' : ¬ (9223372036854775807 < ((n:Int) + (m:Int))):=by omega
 have h48' : ¬ (281474976710656 < Builtin.nextslicecap (n + m) cap * i.bytes):=by have:=growslice_fits (old:=cap) (by omega) hb;omega
 have hmw:IntKind.i64.wrap (m:Int) = (m:Int):=IntWalk.i64_in _ ⟨by omega,by omega⟩
 have hmb:¬ ((2:Int) ^ 48 < (m:Int) * (i.bytes:Int)):=by
  have h1:m * i.bytes ≤ (n + m) * i.bytes:=Nat.mul_le_mul_right _ (by omega)
  have h2:((m * i.bytes:Nat):Int) ≤ 140737488355328:=by omega
  rw [Int.natCast_mul] at h2
  have:(2:Int) ^ 48 = 281474976710656:=by decide
  omega
 have hmb' : ¬ (281474976710656 < (m:Int) * (i.bytes:Int)):=by simpa using hmb
 have hm0:¬ ((m:Int) < 0):=by omega
 have hms:¬ (m = 0 ∨ i.size = 0):=by omega
 have e3:=ho w.drew rfl
 simp [Builtin.append_,run_underlying ht,run_underlying hxT,sizeOf,typeInfo,zeroValue,hi,hz,asInt,asIntOf,hmw,hmb',hm0,hn,h63',h48',hms,Question.forced,e3,newRow,grownCap]
 intro h0
 exact absurd h0 (Nat.mul_ne_zero (by omega) hs)
theorem KG {F:Still} {ρ:Places} {c:Array Value} {k n:Nat}:RowsAt F ρ c k (z7 k n):=by
 refine ⟨fun row hr=>?_,fun i j row x v hi hj _=>?_⟩
 ·simp only [z7,List.mem_replicate] at hr;rw [hr.2];simp
 ·have hr:=List.mem_of_getElem? hi
  simp only [z7,List.mem_replicate] at hr
  rw [hr.2] at hj
  have hx:=List.mem_of_getElem? hj
  rw [List.mem_replicate] at hx
  rw [hx.2]
  exact .junk _ v
section ops
variable {C:Cx} {N d:Nat} {ty:TypeId} {pos:String} {af:Array Edge} {gd:Option (Nat × Bool)} {t:Nat → AV} {h:Nat → HB}
theorem VB (T xT ty' e:Nat) (x y:Operand) (m n len cnt:Nat) (kx k:IntKind) (rs:List (List AV)) (r re rx:TRec) (hx:evA t x = .os n 0 len) (hn:h n = .own true re.size rs) (hl:len ≤ rs.length) (hy:evA t y = .v (.int kx (cnt:Int))) (hT:qW C.tab T = some r) (he:r.kind = .slice e) (hE:qW C.tab e = some re)
  (hxT:qW C.tab xT = some rx) (hxk:rx.kind = .int k) (hz:re.zero.length = re.size) (hs0:re.size ≠ 0) (hg:rs.length < len + cnt) (hsz:(len + cnt) * re.bytes ≤ 140737488355328) (hlen:len + cnt ≤ 9223372036854775807) (hN:d < N) :
  ja C.P N ⟨some d,.call ⟨.builtin .append, #[x,y], #[T,xT]⟩,ty',pos,af,gd⟩ t h ⟨yr x ++ yr y,[n],some d,.os m 0 (len + cnt),[(m,.own false re.size (rs.take len ++ z7 re.size cnt))],[m]⟩:=by
 refine wj (ks:=[]) _ _ m false re.size _ [m] (fun d' hd'=>by injection hd' with e;exact e ▸ hN) (.inl rfl) (by simp) ?_
 intro B A h' F ρ a w hp hm hh hfr
 have h1:=qE (x:=x) hm (fun j hj=>List.mem_append_left _ hj)
 have h2:=qE (x:=y) hm (fun j hj=>List.mem_append_right _ hj)
 rw [hx] at h1;rw [hy] at h2
 obtain ⟨hvy,_⟩:=h2.v_inv
 have hρ:ρ m = none:=hfr m (by simp)
 have hu:=yj (C.ok T r hT) he
 have hxu:=YG (C.ok xT rx hxT) hxk
 obtain ⟨dd,inf,z,_,hi,hz0,_,_,hsize,hbytes,hzc⟩:=yG (C.ok e re hE)
 have hn' : h' n = .own true re.size rs:=(hh n (List.mem_cons_self ..)).trans hn
 have ho:=hp.own n
 rw [hn'] at ho
 have hcnt:0 < cnt:=by omega
 have hlt:(rs.take len).length = len:=by simp;omega
 have hzl:(Builtin.zeroCells z.cells cnt).toList.length = (z7 re.size cnt).length * re.size:=by
  rw [w4]
  simp [Builtin.zeroCells,hzc,hz]
 have more : ∀ (ad:Option Addr) (olds:List Value),a.eval x = .slice ad len rs.length → (∀ w',w'.heap = w.heap → (Builtin.firstCells inf.size len (.slice ad len rs.length)).run C.P w' = .ok olds.toArray w') → olds.length = len * re.size → RowsAt F ρ olds.toArray re.size (rs.take len) →
   ∃ v w' pl tb,(execOp a.eval ⟨some d,.call ⟨.builtin .append, #[x,y], #[T,xT]⟩,ty',pos,af,gd⟩).run C.P w = .ok v w' ∧ (v = .skip ∧ (⟨some d,.call ⟨.builtin .append, #[x,y], #[T,xT]⟩,ty',pos,af,gd⟩ : Oper).dst = none ∨ ∃ u,v = .value u ∧ M F (fun n=>if n = m then some pl else ρ n) u (.os m 0 (len + cnt))) ∧
     (ρ m = none ∨ ρ m = some pl) ∧ B.kept w' ∧ (∀ b,tb = some b → ∃ n0 c,(n0 = m ∨ ([]:List Nat)[0]? = some n0) ∧ (h' n0).isOwn = true ∧ ρ n0 = some (some (b,c))) ∧
     (∀ b,b < w.heap.size → tb ≠ some b → w'.heap[b]? = w.heap[b]?) ∧ (∀ b c,pl = some (b,c) → tb = some b ∨ w.heap.size ≤ b) ∧
     OwnAt F (fun n=>if n = m then some pl else ρ n) w' m (.own false re.size (rs.take len ++ z7 re.size cnt)) ∧ ([m] = [] → ρ m ≠ none):=by
  intro ad olds hv hol hll holR
  have hr:=Xz (P:=C.P) (w:=w) T xT ty' e k inf z hu hxu hi hz0 ad len rs.length cnt kx olds hol hg hcnt (by rw [hsize];exact hs0) (by unfold maxLen;omega) (by rw [hbytes];exact hsz)
  have hge:=grownCap_ge w (len + cnt) rs.length e
  have hex : ∀ V W,(Builtin.append_ #[T,xT] ty' #[.slice ad len rs.length,.int kx (cnt:Int)]).run C.P w = .ok V W → (execOp a.eval ⟨some d,.call ⟨.builtin .append, #[x,y], #[T,xT]⟩,ty',pos,af,gd⟩).run C.P w = .ok (.value V) W:=fun V W hVW=>by
   simp [execOp,resolve,invoke,builtin,hv,hvy,hVW]
  refine ⟨.value _,_,some (w.heap.size,re.size,grownCap w (len + cnt) rs.length e),none,hex _ _ hr,.inr ⟨_,rfl,?_⟩,.inl hρ,hp.kept.drew.alloc _,(fun b hb=>by cases hb),fun b hb _=>heap_alloc_old w.drew _ b hb,(fun b c hb=>by simp only [Option.some.injEq,Prod.mk.injEq] at hb;exact .inr (by omega)),.inr ⟨w.heap.size,grownCap w (len + cnt) rs.length e,_,e,by simp,heap_alloc_new w.drew _,?_,by rw [List.length_append,hlt,w4];exact hge,(fun h=>by cases h),?_⟩,(fun h=>by cases h)⟩
  ·have:=M.os (F:=F) (fun n=>if n = m then some (some (w.heap.size,re.size,grownCap w (len + cnt) rs.length e)) else ρ n) m w.heap.size re.size (grownCap w (len + cnt) rs.length e) 0 (len + cnt) ⟨w.heap.size,0,none⟩ (by simp) (by omega) (fun _=>by simp)
   simpa using this
  ·exact Qr (by rw [hzc];simpa using hz) hll (by rw [hzl,w4]) hge
  ·have hle2:ρ.le (fun n=>if n = m then some (some (w.heap.size,re.size,grownCap w (len + cnt) rs.length e)) else ρ n):=fun n c hn=>by
    by_cases hnm:n = m
    ·subst hnm;rw [hρ] at hn;cases hn
    ·simpa [hnm] using hn
   exact (RowsAt.grown holR KG (by rw [hlt];exact hll) hzl).mono (Still.le_refl F) hle2
 rcases h1.os_inv with ⟨hρn,_,rfl,ad,hv⟩|⟨b,k',cap,ad,hρn,hv,hcap,ha⟩
 ·have hrs:rs = []:=by
   rcases ho with ⟨_,h4⟩|⟨b,cap,c,e,h4,_⟩
   ·exact h4
   ·rw [hρn] at h4;cases h4
  subst hrs
  exact more ad [] hv (fun w' _=>by cases ad<;>simp [Builtin.firstCells,loadCells,loadCellsFrom]) (by simp) ⟨(fun row hr=>by simp at hr),fun i j row x v h1=>by simp at h1⟩
 ·obtain ⟨rfl,c,e0,hb,hcs,hle,hex,hR⟩:=y8 ho hρn
  have hcap':=hex rfl
  subst hcap'
  rw [Nat.sub_zero] at hv
  have hmul:len * re.size ≤ rs.length * re.size:=Nat.mul_le_mul_right _ (by omega)
  refine more (some ad) (c.toList.take (len * re.size)) hv (fun w' hw'=>?_) (by simp;omega) ⟨fun row hr=>hR.1 row (List.mem_of_mem_take hr),fun i j row x v h3 h4 h5=>?_⟩
  ·by_cases hl0:len = 0
   ·subst hl0;simp [Builtin.firstCells,loadCells,loadCellsFrom]
   ·have had:=ha (by omega)
    rw [Nat.zero_mul] at had
    subst had
    have hlo:(c.toList.take (len * re.size)).length = len * re.size:=by simp;omega
    have:=run_loadCells_list (P:=C.P) w' ⟨b,0,none⟩ (c.toList.take (len * re.size)) (fun i v hiv=>by
     rw [List.getElem?_take] at hiv
     split at hiv
     ·have:(⟨b,0,none⟩ : Addr).add i = ⟨b,i,none⟩:=by unfold Addr.add;split<;>simp_all
      rw [this]
      simp [World.cell?,hw',hb,(by simpa using hiv:c[i]? = some v)]
     ·cases hiv)
    rw [hlo] at this
    rw [hsize]
    exact this
  ·simp only [List.getElem?_toArray,List.getElem?_take] at h5
   have hi:i < len:=by have:=(List.getElem?_eq_some_iff.1 h3).1;omega
   rw [List.getElem?_take,if_pos hi] at h3
   split at h5
   ·exact hR.2 i j row x v h3 h4 (by simpa using h5)
   ·cases h5
theorem qdX {P:Program} {N:Nat} {o:Oper} {t:Nat → AV} {h:Nat → HB} {d:Nat} {x:AV} (rt:List Nat) (rh:List Nat) (hd:o.dst = some d) (hN:d < N)
  (hrun : ∀ B A h' F ρ (a:Act) (w:World),Hp B A h' F ρ w → (∀ j,j ∈ rt → M F ρ (a.tmps.getD j undef) (t j)) → (∀ n,n ∈ rh → h' n = h n) →
   ∃ v,(execOp a.eval o).run P w = .ok (.value v) w ∧ M F ρ v x):ja P N o t h ⟨rt,rh,some d,x,[],[]⟩:=by
 intro B A t' h' a w Q K hBN g hrt hrh _ hK
 obtain ⟨g1,g2,F,ρ,hp,g4⟩:=g
 obtain ⟨v,hv,hx⟩:=hrun B A h' F ρ a w hp (fun j hj=>(hrt j hj) ▸ g4 j) hrh
 unfold Oper.wp
 rw [hv,Oper.upon_value]
 refine hK _ _ ⟨?_,by rw [zo];exact g2,F,ρ,hp.weaken fun n hn => .inl hn,fun i=>?_⟩
 ·cases ho:o.dst<;>simpa [Act.put] using g1
 ·rw [hd,kg _ _ _ _ (by omega)]
  unfold Eff.t Eff.wT
  by_cases hi:d = i
  ·subst hi;simpa using hx
  ·simpa [hi] using g4 i
theorem vz {P:Program} (w:World) (tS tR e:TypeId) (r re:TRec) (ht:QQ P tS = some r) (he:r.kind = .slice e) (hE:QQ P e = some re) (a b:Option Addr) (la ca lb cb:Nat) (h:a = none ∨ b = none ∨ la = 0 ∨ lb = 0) :
  (Extern.SlicesOverlaps.overlaps #[tS,tS] #[tR] #[.slice a la ca,.slice b lb cb]).run P w = .ok (.bool false) w:=by
 have hu:=yj ht he
 have hz:=xE hE
 change Sem.run P (α:=Value) (do
  let some t:=(#[tS,tS]:Array TypeId)[0]?|stuck "slices.overlaps: no parameter types"
  let .slice elem ← underlying t|stuck "slices.overlaps: slice type expected"
  let size ← sizeOf elem
  match a,b with
  | some a,some b =>
    if la = 0 ∨ lb = 0 ∨ size = 0 then pure (Value.bool false)
    else if a.block != b.block && (← frozen a) && (← frozen b) then unsupported .addressObserved
    else do
     if a.block != b.block then do
      noView a;noView b
      if ← mayBeOne a b then return Value.bool ((← choose (.extern "sameAddr.stringBytes" 2)) == 1)
     pure (Value.bool (a.block == b.block && a.off < b.off + lb * size && b.off < a.off + la * size))
  | _,_=>pure (Value.bool false)) w = _
 cases a with
 | none=>simp [run_underlying hu,hz]
 | some a =>
   cases b with
   | none=>simp [run_underlying hu,hz]
   | some b =>
     have h0:la = 0 ∨ lb = 0 ∨ re.size = 0:=by
      rcases h with h|h|h|h
      ·cases h
      ·cases h
      ·exact .inl h
      ·exact .inr (.inl h)
     simp [run_underlying hu,hz,h0]
theorem JM {P:Program} (w:World) (tS tR e:TypeId) (ht:P.underlying tS = some (.slice e)) (size:Nat) (hz : ∀ w,(Go.sizeOf e).run P w = .ok size w)
  (a b:Addr) (la ca lb cb:Nat) (hne:a.block ≠ b.block) (tA tB:TypeId) (kA kB:Nat)
  (hsa:w.shape? a.block = some (tA,kA)) (hsb:w.shape? b.block = some (tB,kB)) (hkB:kB ≠ 0) (hkA:kA ≠ 0)
  (hfb:w.frozen? b = false) (hfe:w.frozen? { block:=b.block,off:=kB } = false) :
  (Extern.SlicesOverlaps.overlaps #[tS,tS] #[tR] #[.slice (some a) la ca,.slice (some b) lb cb]).run P w = .ok (.bool false) w:=by
 have hnb:(a.block != b.block) = true:=by simpa using hne
 have hnb' : (a.block == b.block) = false:=by simpa using hne
 change Sem.run P (α:=Value) (do
  let some t:=(#[tS,tS]:Array TypeId)[0]?|stuck "slices.overlaps: no parameter types"
  let .slice elem ← underlying t|stuck "slices.overlaps: slice type expected"
  let size ← sizeOf elem
  match (some a:Option Addr),(some b:Option Addr) with
  | some a,some b =>
    if la = 0 ∨ lb = 0 ∨ size = 0 then pure (Value.bool false)
    else if a.block != b.block && (← frozen a) && (← frozen b) then unsupported .addressObserved
    else do
     if a.block != b.block then do
      noView a;noView b
      if ← mayBeOne a b then return Value.bool ((← choose (.extern "sameAddr.stringBytes" 2)) == 1)
     pure (Value.bool (a.block == b.block && a.off < b.off + lb * size && b.off < a.off + la * size))
  | _,_=>pure (Value.bool false)) w = _
 by_cases h0:la = 0 ∨ lb = 0 ∨ size = 0
 ·simp [run_underlying ht,hz,h0]
 ·cases kB with
  | zero=>exact absurd rfl hkB
  | succ kB =>
    cases kA with
    | zero=>exact absurd rfl hkA
    | succ kA=>cases hfa:w.frozen? a<;>cases hfa' : w.frozen? { block:=a.block,off:=kA + 1 }<;>simp [run_underlying ht,hz,h0,hnb,hnb',frozen,noView,viewAt,mayBeOne,stringish,shape,Sem.run,hsa,hsb,hfa,hfa',hfb,hfe]
theorem Ws (f:FuncId) (fn:Func) (tys:Array TypeId) (x y:Operand) (m off' len' k:Nat) (ex ex' : Bool) (rs rs' : List (List AV)) (tS tR e:TypeId) (r re:TRec) (hf:C.P.funcs[f]? = some fn) (hname:(fn.name == "runtime.NumGoroutine") = false)
  (hb:fn.body.isNone = true) (hnx:Extern.findNext fn = none) (hex:Extern.find fn = some (Extern.SlicesOverlaps.overlaps #[tS,tS] #[tR])) (hT:qW C.tab tS = some r) (he:r.kind = .slice e) (hE:qW C.tab e = some re)
  (hx:evA t x = .sl ex rs) (hy:evA t y = .os m off' len') (hm:h m = .own ex' k rs') (hk:k ≠ 0) (hrw : ∀ row,row ∈ rs → row.length ≠ 0) (hN:d < N) :
  ja C.P N ⟨some d,.call ⟨.value (.func f), #[x,y],tys⟩,ty,pos,af,gd⟩ t h ⟨yr x ++ yr y,[m],some d,.v (.bool false),[],[]⟩ :=
 qdX _ _ rfl hN fun B A h' F ρ a w hp hs hh=>by
  have h1:=qE (x:=x) hs (fun j hj=>List.mem_append_left _ hj)
  have h2:=qE (x:=y) hs (fun j hj=>List.mem_append_right _ hj)
  rw [hx] at h1;rw [hy] at h2
  have hm' : h' m = .own ex' k rs':=(hh m (by simp)).trans hm
  have ho':=hp.own m
  rw [hm'] at ho'
  have hT':=C.ok _ r hT
  have hE':=C.ok _ re hE
  have fin:(Extern.SlicesOverlaps.overlaps #[tS,tS] #[tR] #[a.eval x,a.eval y]).run C.P w = .ok (.bool false) w:=by
   rcases h1.sl_inv with ⟨h0,ad,cap,hv,_⟩|⟨b,o,cap,c,e',fr,kk,hb,_,_,hsz,hkk,_,hv⟩
   ·rw [hv]
    rcases h2.os_inv with ⟨_,_,rfl,ad',hv'⟩|⟨b',k'',cap',ad',hρ',hv',hcap',ha'⟩
    ·rw [hv'];exact vz w tS tR e r re hT' he hE' _ _ _ _ _ _ (.inr (.inr (.inr rfl)))
    ·rw [hv'];exact vz w tS tR e r re hT' he hE' _ _ _ _ _ _ (.inr (.inr (.inl rfl)))
   ·rw [hv]
    rcases h2.os_inv with ⟨_,_,rfl,ad',hv'⟩|⟨b',k'',cap',ad',hρ',hv',hcap',ha'⟩
    ·rw [hv'];exact vz w tS tR e r re hT' he hE' _ _ _ _ _ _ (.inr (.inr (.inr rfl)))
    ·rw [hv']
     by_cases h0' : len' = 0
     ·exact vz w tS tR e r re hT' he hE' _ _ _ _ _ _ (.inr (.inr (.inr h0')))
     ·obtain ⟨rfl,c',e0',hb1',hcs',hle',_,_⟩:=y8 ho' hρ'
      have hne:b ≠ b':=fun h=>by
       have:=(hp.new m b' _ (by rw [hm'];rfl) hρ').1
       rw [← h,hb] at this;cases this
      have had':=ha' (by omega)
      subst had'
      have hkB:c'.size ≠ 0:=by
       rw [hcs']
       exact Nat.mul_ne_zero (by omega) hk
      have hbw:=hp.agree b _ hb
      by_cases hr0:rs = []
      ·subst hr0;exact vz w tS tR e r re hT' he hE' _ _ _ _ _ _ (.inr (.inr (.inl rfl)))
      have hkA:c.size ≠ 0:=by
       obtain ⟨row,hrow⟩:=List.exists_mem_of_ne_nil rs hr0
       have h1:=hkk row hrow
       have h2:=hrw row hrow
       have h3:0 < rs.length:=List.length_pos_of_mem hrow
       have h4:0 < rs.length * kk:=Nat.mul_pos h3 (by omega)
       omega
      exact JM w tS tR e (yj hT' he) re.size (fun w=>xE hE' w) _ _ _ _ _ _ hne e' e0' c.size c'.size (by simp [World.shape?,hbw]) (by simp [World.shape?,hb1']) hkB hkA (by simp [World.frozen?,hb1']) (by simp [World.frozen?,hb1'])
  refine ⟨.bool false,?_,.v _ _ rfl⟩
  have hcall:=run_callFunc_extern hf hname hb hnx hex #[a.eval x,a.eval y] w
  rw [fin] at hcall
  have hcall' : Sem.run C.P (callFunc f #[a.eval x,a.eval y]) w = Result.ok (.value (.bool false)) w:=hcall
  have he' : a.eval (.func f) = .func (.func f) #[] #[]:=rfl
  simp [execOp,resolve,invoke,he',Deferred.ofValue,hcall']
end ops
end Go.Ab
set_option linter.unusedSimpArgs false
set_option linter.unusedVariables false
namespace Go.Ab
open Go.RowKit
theorem qab {F:Still} {ρ:Places} {c:Array Value} {k m:Nat} {rows:List (List AV)} (h:RowsAt F ρ c k rows):RowsAt F ρ c k (rows.take m):=by
 refine ⟨fun row hr=>h.1 row (List.mem_of_mem_take hr),fun i j row x v hi hj hv=>?_⟩
 rw [List.getElem?_take] at hi
 split at hi
 ·exact h.2 i j row x v hi hj hv
 ·cases hi
theorem VZ {F:Still} {ρ:Places} {w:World} {n k m:Nat} {ex:Bool} {rows:List (List AV)} (h:OwnAt F ρ w n (.own ex k rows)):OwnAt F ρ w n (.own false k (rows.take m)):=by
 rcases h with ⟨h1,h2⟩|⟨b,cap,c,e,h1,h2,h3,h4,h5,h6⟩
 ·subst h2;exact .inl ⟨h1,by simp⟩
 ·exact .inr ⟨b,cap,c,e,h1,h2,h3,by simp;omega,(fun h=>by cases h),qab h6⟩
theorem qfB {C:Cx} {ts:List (Nat × AV)} {hs:List (Nat × HB)} {nx:Nat} (n m:Nat) {ex:Bool} {k:Nat} {rows rows' : List (List AV)} (hn:jg hs n = .own ex k rows) (hr:rows.take m = rows'):Red C ⟨ts,hs,nx⟩ ⟨ts,(n,.own false k rows') :: hs,nx⟩:=by
 intro B a w hB ⟨g1,g2,F,ρ,hp,g4⟩
 have hiso : ∀ m,(jg ((n,.own false k rows') :: hs) m).isOwn = true → (jg hs m).isOwn = true:=by
  intro m hm
  rw [xF] at hm
  by_cases e:n = m
  ·subst e;rw [hn];rfl
  ·rw [if_neg e] at hm;exact hm
 refine ⟨g1,g2,F,ρ,?_,g4⟩
 refine { kept:=hp.kept,agree:=hp.agree,grow:=hp.grow,fresh:=hp.fresh,names:=hp.names,dom:=hp.dom,own:=fun m=>?_,new:=fun m b c ho hm=>hp.new m b c (hiso m ho) hm,sep:=fun m m' b c c' hne ho ho'=>hp.sep m m' b c c' hne (hiso m ho) (hiso m' ho') }
 show OwnAt F ρ w m (jg ((n,_) :: hs) m)
 rw [xF]
 by_cases e:n = m
 ·subst e
  rw [if_pos rfl, ← hr]
  have:=hp.own n
  rw [show jg (⟨ts,hs,nx⟩ : St).hs n = .own ex k rows from hn] at this
  exact VZ this
 ·rw [if_neg e];exact hp.own m
theorem W7 {C:Cx} {ts:List (Nat × AV)} {hs:List (Nat × HB)} {nx:Nat} (i n m:Nat) {off len:Nat} {ex:Bool} {k:Nat} {rows rows' : List (List AV)} (hi:qS ts i = .os n off len) (hn:jg hs n = .own ex k rows) (hr:rows.take m = rows') (hnn:n ≠ nx) (hnx:C.nh ≤ nx) :
  Red C ⟨ts,hs,nx⟩ ⟨(i,.os nx off len) :: ts,(nx,.own false k rows') :: (n,.dead) :: hs,nx + 1⟩:=by
 intro B a w hB ⟨g1,g2,F,ρ,hp,g4⟩
 let ρ' : Places:=fun n'=>if n' = nx then ρ n else ρ n'
 have hnone:ρ nx = none:=by
  cases h:ρ nx with
  | none=>rfl
  | some c=>exact absurd (hp.dom nx (by rw [h];simp)) (Nat.lt_irrefl _)
 have hle:ρ.le ρ':=fun n' c hn=>by
  simp only [ρ']
  by_cases e:n' = nx
  ·subst e;rw [hnone] at hn;cases hn
  ·rw [if_neg e];exact hn
 have hown0:OwnAt F ρ w n (.own ex k rows):=by
  have:=hp.own n
  rw [show jg (⟨ts,hs,nx⟩ : St).hs n = .own ex k rows from hn] at this
  exact this
 have hnr:ρ' nx = ρ n:=by simp [ρ']
 have hget : ∀ x,jg ((nx,.own false k rows') :: (n,.dead) :: hs) x = if nx = x then .own false k rows' else if n = x then .dead else jg hs x:=fun x=>by rw [xF,xF]
 have hwas : ∀ x,(jg ((nx,.own false k rows') :: (n,.dead) :: hs) x).isOwn = true → ∃ y,(jg hs y).isOwn = true ∧ ρ' x = ρ y ∧ ((x = nx ∧ y = n) ∨ (x ≠ nx ∧ x ≠ n ∧ y = x)):=by
  intro x hx
  rw [hget] at hx
  by_cases e:nx = x
  ·subst e;exact ⟨n,by rw [hn];rfl,hnr,.inl ⟨rfl,rfl⟩⟩
  ·rw [if_neg e] at hx
   by_cases e2:n = x
   ·rw [if_pos e2] at hx;cases hx
   ·rw [if_neg e2] at hx
    exact ⟨x,hx,by simp only [ρ'];rw [if_neg (fun h=>e h.symm)],.inr ⟨fun h=>e h.symm,fun h=>e2 h.symm,rfl⟩⟩
 refine ⟨g1,g2,F,ρ',?_,fun j=>?_⟩
 ·refine { kept:=hp.kept,agree:=hp.agree,grow:=hp.grow,fresh:=hp.fresh,names:=fun n' c hn'=>hle n' c (hp.names n' c hn'),dom:=fun n' hn'=>?_,own:=fun x=>?_,new:=fun x b c ho hx=>?_,sep:=fun x z b c c' hne ho ho' hx hz=>?_ }
  ·simp only [ρ'] at hn'
   show n' < nx + 1
   by_cases e:n' = nx
   ·omega
   ·rw [if_neg e] at hn';have:n' < nx:=hp.dom n' hn';omega
  ·show OwnAt F ρ' w x (jg ((nx,.own false k rows') :: (n,.dead) :: hs) x)
   rw [hget]
   by_cases e:nx = x
   ·subst e
    rw [if_pos rfl]
    have h1:=VZ (m:=m) hown0
    rw [hr] at h1
    rcases h1 with ⟨h1,h2⟩|⟨b,cap,c,e',h1,h2,h3,h4,h5,h6⟩
    ·exact .inl ⟨hnr.trans h1,h2⟩
    ·exact .inr ⟨b,cap,c,e',hnr.trans h1,h2,h3,h4,h5,h6.mono (Still.le_refl _) hle⟩
   ·rw [if_neg e]
    by_cases e2:n = x
    ·rw [if_pos e2];trivial
    ·rw [if_neg e2]
     have h0:OwnAt F ρ w x (jg hs x):=hp.own x
     cases e1:jg hs x with
     | dead=>trivial
     | fz rows' =>
       rw [e1] at h0
       rcases h0 with ⟨h1,h2⟩|⟨b,k',cap,c,e',fr,h1,h2,h3⟩
       ·exact .inl ⟨hle _ _ h1,h2⟩
       ·exact .inr ⟨b,k',cap,c,e',fr,hle _ _ h1,h2,h3⟩
     | mp l =>
       rw [e1] at h0
       obtain ⟨b,es,clock,h1,h2,h3⟩:=h0
       exact ⟨b,es,clock,hle _ _ h1,h2,h3.mono (Still.le_refl _) hle⟩
     | own ex' k' rows' =>
       rw [e1] at h0
       rcases h0 with ⟨h1,h2⟩|⟨b,cap,c,e',h1,h2,h3,h4,h5,h6⟩
       ·exact .inl ⟨hle _ _ h1,h2⟩
       ·exact .inr ⟨b,cap,c,e',hle _ _ h1,h2,h3,h4,h5,h6.mono (Still.le_refl _) hle⟩
  ·obtain ⟨y,h1,h2,_⟩:=hwas x ho
   rw [h2] at hx
   exact hp.new y b c h1 hx
  ·obtain ⟨y,h1,h2,h3⟩:=hwas x ho
   obtain ⟨u,h4,h5,h6⟩:=hwas z ho'
   rw [h2] at hx;rw [h5] at hz
   refine hp.sep y u b c c' ?_ h1 h4 hx hz
   rcases h3 with ⟨rfl,rfl⟩|⟨a1,a2,rfl⟩<;>rcases h6 with ⟨rfl,rfl⟩|⟨b1,b2,rfl⟩
   ·exact absurd rfl hne
   ·exact fun h=>b2 h.symm
   ·exact a2
   ·exact hne
 ·show M F ρ' _ (qS ((i,_) :: ts) j)
  rw [wZ]
  by_cases e:i = j
  ·subst e
   rw [if_pos rfl]
   have h1:M F ρ _ (qS ts i):=g4 i
   rw [hi] at h1
   exact (qz (L:=[(n,nx)]) (nh:=0) (.inr (by simp))) F ρ ρ' _ (fun a b hm c hc=>by
    rcases hm with ⟨h,_⟩|h
    ·exact absurd h (Nat.not_lt_zero _)
    ·simp only [List.mem_singleton,Prod.mk.injEq] at h
     rw [h.2,hnr, ← h.1];exact hc) h1
  ·rw [if_neg e];exact (g4 j).mono (Still.le_refl _) hle
theorem Yz {C:Cx} {rs:Array ResultVar} {r:AV} {H' : List HB} {ts:List (Nat × AV)} {hs:List (Nat × HB)} {nx:Nat} (i n m:Nat) {off len:Nat} {ex:Bool} {k:Nat} {rows rows' : List (List AV)} (hi:qS ts i = .os n off len) (hn:jg hs n = .own ex k rows) (hr:rows.take m = rows') (hnn:n ≠ nx) (hnx:C.nh ≤ nx)
  (h:Fin C rs C.nh r H' ⟨(i,.os nx off len) :: ts,(nx,.own false k rows') :: (n,.dead) :: hs,nx + 1⟩):Fin C rs C.nh r H' ⟨ts,hs,nx⟩:=xy (W7 i n m hi hn hr hnn hnx) h
theorem qfb {C:Cx} {rs:Array ResultVar} {r:AV} {H' : List HB} {ts:List (Nat × AV)} {hs:List (Nat × HB)} {nx:Nat} (n m:Nat) {ex:Bool} {k:Nat} {rows rows' : List (List AV)} (hn:jg hs n = .own ex k rows) (hr:rows.take m = rows')
  (h:Fin C rs C.nh r H' ⟨ts,(n,.own false k rows') :: hs,nx⟩):Fin C rs C.nh r H' ⟨ts,hs,nx⟩:=xy (qfB n m hn hr) h
end Go.Ab
