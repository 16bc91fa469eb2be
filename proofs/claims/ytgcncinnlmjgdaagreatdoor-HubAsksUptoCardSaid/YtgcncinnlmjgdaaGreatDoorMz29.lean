import Derived.Test.YtgcncinnlmjgdaaGreatDoorMz26
import Derived.Lib.UnsafeStr
import Derived.Laws.LoneSync
import Derived.Laws.Build
set_option linter.unusedSimpArgs false
set_option linter.unusedVariables false
set_option linter.unnecessarySimpa false
namespace Go.Ab
open Go.RowKit
theorem qj3 (b k:Nat):(⟨b,0,none⟩ : Addr).add k = ⟨b,k,none⟩:=by unfold Addr.add;split<;>simp_all
section ops
variable {C:Cx} {N d:Nat} {ty:TypeId} {pos:String} {af:Array Edge} {gd:Option (Nat × Bool)} {t:Nat → AV} {h:Nat → HB}
theorem Qy (T:TypeId) (x:Operand) (m:Nat) (row:List AV) (hx:evA t x = .agg row) (hc:row.all jj = true) (hN:d < N) :
  qz C.P N ⟨some d,.box T x,ty,pos,af,gd⟩ t h ⟨qW x,[],some d,.op m 0 0,[(m,.mp (.typ T row.length [row]))],[m]⟩:=by
 refine zD (ks:=[]) (qW x) [] m (.mp (.typ T row.length [row])) [m] (fun d' hd'=>by injection hd' with e;exact e ▸ hN) (.inl rfl) (by simp) ?_;intro B A h' F ρ a w hp hm hh hfr;have hρ:ρ m = none:=hfr m (by simp);have h1:=qc (x:=x) hm (fun j hj=>hj);rw [hx] at h1;obtain ⟨c1,_,c3⟩:=h1.cells (x := .agg row) hc;have c1' : (a.eval x).cells.toList.length = row.length:=c1
 have hle:ρ.le (fun n=>if n = m then some (some (w.heap.size,row.length,1)) else ρ n):=fun n c hn=>by
  by_cases hnm:n = m
  ·subst hnm;rw [hρ] at hn;cases hn
  ·simpa [hnm] using hn
 refine ⟨.value (.pointer (some ⟨w.heap.size,0,none⟩)),w.alloc (.cells (a.eval x).cells T),some (w.heap.size,row.length,1),none,?_,.inr ⟨_,rfl,(by simpa using M.op (F:=F) (fun n=>if n = m then some (some (w.heap.size,row.length,1)) else ρ n) m w.heap.size row.length 1 0 0 (by simp))⟩,.inl hρ,hp.kept.alloc _,(fun b hb=>by cases hb),fun b hb _=>?_,(fun b c hb=>by simp only [Option.some.injEq,Prod.mk.injEq] at hb;exact .inr (by omega)),⟨w.heap.size,_,(row.length,1),by simp,heap_alloc_new w _,(a.eval x).cells,rfl,rfl,(by simpa using c1'),Nat.le_refl _,(RowsAt.one (by simpa [cellsOf] using c1') (fun j y v hj hv=>c3 j v y (by simpa using hv) hj)).mono (Still.le_refl F) hle⟩,(fun h=>by cases h)⟩
 ·simp [execOp,Instr.box,newVar,newRow,newObj,Sem.run,Result.andThen]
 ·exact Below.heap_alloc _ _ _ hb
theorem Qq {F:Still} {ρ:Places} {w:World} {n b k' cap' : Nat} {e:TypeId} {k:Nat} {rows:List (List AV)} (h:OwnAt F ρ w n (.mp (.typ e k rows))) (hn:ρ n = some (some (b,k',cap'))) :
  k' = k ∧ ∃ c,w.heap[b]? = some (.cells c e (0,0)) ∧ c.size = cap' * k ∧ rows.length ≤ cap' ∧ RowsAt F ρ c k rows:=by
 obtain ⟨b',o,kc,h1,h2,c,rfl,h3,h4,h5,h6⟩:=h;rw [hn] at h1;simp only [Option.some.injEq,Prod.mk.injEq] at h1;obtain ⟨rfl,rfl⟩:=h1;exact ⟨h3,c,h2,h4,h5,h6⟩
theorem qlO {F:Still} {ρ:Places} {w:World} {n:Nat} {e:TypeId} {k:Nat} {rows:List (List AV)} (h:OwnAt F ρ w n (.mp (.typ e k rows))) : ∃ b k' cap',ρ n = some (some (b,k',cap')):=by
 obtain ⟨b',o,kc,h1,_⟩:=h;exact ⟨b',kc.1,kc.2,h1⟩
theorem qdJ (T:TypeId) (x:Operand) (n i j:Nat) (e:TypeId) (k:Nat) (rows:List (List AV)) (r:TRec) (row:List AV) (y:AV) (hx:evA t x = .op n i j) (hn:h n = .mp (.typ e k rows)) (hT:qD C.tab T = some r)
  (hr:rows[i]? = some row) (hy:cut r row j = some y) (hN:d < N):qz C.P N ⟨some d,.load T x,ty,pos,af,gd⟩ t h ⟨qW x,[n],some d,y,[],[]⟩ :=
 qN _ _ rfl hN fun F ρ a w hag hs hh=>by
  have h1:=qc (x:=x) hs (fun j hj=>hj);rw [hx] at h1;obtain ⟨b,k',cap,hρ,hv⟩:=h1.op_inv;have h2:=hh n (by simp);rw [hn] at h2;obtain ⟨rfl,c,hb,hsz,hle,hR⟩:=Qq h2 hρ;have hi:i < rows.length:=(List.getElem?_eq_some_iff.1 hr).1;have hk:row.length = k':=hR.1 row (List.mem_of_getElem? hr);obtain ⟨v,hrun,hm⟩:=YY (F:=F) (ρ:=ρ) hb (C.ok T r hT) (base:=i * k') (j:=j) (row:=row) (x:=y) (by rw [hk,hsz];exact vN hi hle) (fun j x v hj hc=>hR.2 i j row x v hr hj hc) hy;refine ⟨v,?_,hm⟩;simp only [execOp,hv,Instr.loadAt,Instr.sureAddr,Sem.run_bind,Sem.run_pure,Result.andThen_ok,hrun]
theorem qck (T:TypeId) (p x:Operand) (n i j:Nat) (e:TypeId) (k:Nat) (rows:List (List AV)) (r:TRec) (row:List AV) (hp:evA t p = .op n i j) (hn:h n = .mp (.typ e k rows)) (hT:qD C.tab T = some r)
  (hr:rows[i]? = some row) (hc:(cellsOf (evA t x)).all jj = true) (hs:(cellsOf (evA t x)).length = r.size) (hj:j + (cellsOf (evA t x)).length ≤ row.length) :
  qz C.P N ⟨none,.store T p x,ty,pos,af,gd⟩ t h ⟨qW p ++ qW x,[n],none,.junk,[(n,.mp (.typ e k (rows.set i (kL row j (cellsOf (evA t x))))))],[]⟩ :=
 zD (ks:=[]) _ _ n (.mp (.typ e k _)) [] (fun d hd=>by cases hd) (.inr rfl) (by simp) fun B A h' F ρ a w hpp hm hh _=>by
  have h1:=qc (x:=p) hm (fun j hj=>List.mem_append_left _ hj);have h2:=qc (x:=x) hm (fun j hj=>List.mem_append_right _ hj);rw [hp] at h1;obtain ⟨b,k',cap,hρ,hv⟩:=h1.op_inv;have hn' : h' n = .mp (.typ e k rows):=(hh n (by simp)).trans hn;have h3:=hpp.own n;rw [hn'] at h3;obtain ⟨rfl,c,hb,hsz,hle,hR⟩:=Qq h3 hρ;have hi:i < rows.length:=(List.getElem?_eq_some_iff.1 hr).1;have hk:row.length = k':=hR.1 row (List.mem_of_getElem? hr);obtain ⟨c1,c2,c3⟩:=h2.cells hc;have hrow:=vN (k:=k') hi hle;have hst:=run_storeCells_at C.P b (i * k' + j) e (a.eval x).cells.toList 0 c w hb (by rw [hsz,c1];omega) c2;simp only [Nat.add_zero] at hst
  let c' : Array Value:=(c.toList.take (i * k' + j) ++ (a.eval x).cells.toList ++ c.toList.drop (i * k' + j + (a.eval x).cells.toList.length)).toArray
  have hc'size:c'.size = c.size:=by simp only [c',List.size_toArray,List.length_append,List.length_take,List.length_drop,Array.length_toList];simp only [Array.length_toList] at c1;omega
  have hpl:(fun m=>if m = n then some (some (b,k',cap)) else ρ m) = ρ:=by
   funext m;by_cases hmn:m = n
   ·subst hmn;simp [hρ]
   ·simp [hmn]
  refine ⟨.skip,w.setRow b c',some (b,k',cap),some b,?_,.inl ⟨rfl,rfl⟩,.inr hρ,?_,?_,?_,?_,?_,fun _=>by rw [hρ];simp⟩
  ·have hsv:(storeVar T ⟨b,i * k' + j,none⟩ (a.eval x)).run C.P w = .ok () (w.setRow b c'):=by
    unfold storeVar;have hcs:(a.eval x).cells.size = r.size:=by rw [← Array.length_toList,c1,hs]
    simp only [Sem.run_bind,j0 (C.ok T r hT),Result.andThen_ok,hcs,ne_eq,not_true_eq_false,if_false,Sem.run_pure];exact hst
   simp only [execOp,hv,Instr.storeAt,Instr.sureAddr,Sem.run_bind,Sem.run_pure,Result.andThen_ok,hsv]
  ·have hnew:=(hpp.new n b _ (by rw [hn'];rfl) hρ).2;refine ⟨hpp.kept.os,hpp.kept.tape,hpp.kept.output,by simpa [World.setRow] using hpp.kept.size,fun b' hb' ho=>?_⟩
   rw [setRow_other _ _ _ _ (by rintro rfl;rcases hnew with hnew|hnew; · omega
                                ·exact ho hnew)]
   exact hpp.kept.block b' hb' ho
  ·intro b' hb';simp only [Option.some.injEq] at hb';subst hb';exact ⟨n,_,.inl rfl,by rw [hn'];rfl,hρ⟩
  ·intro b' _ hb';exact setRow_other _ _ _ _ (fun e=>hb' (by rw [e]))
  ·intro b' c'' he;simp only [Option.some.injEq,Prod.mk.injEq] at he;exact .inl (by rw [he.1])
  ·rw [hpl];refine ⟨b,_,(k',cap),hρ,setRow_heap _ _ _ _ _ _ hb,c',rfl,rfl,by rw [hc'size];exact hsz,by simpa using hle,?_,?_⟩
   ·intro row' hrow';rcases List.mem_or_eq_of_mem_set hrow' with h4|h4
    ·exact hR.1 row' h4
    ·rw [h4,zg hj,hk]
   ·intro i' j' row' y v' hi' hj' hv'
    have hj'k:j' < k':=by
     have:=(List.getElem?_eq_some_iff.1 hj').1
     have hl:row'.length = k':=by
      rcases List.mem_or_eq_of_mem_set (List.mem_of_getElem? hi') with h4|h4
      ·exact hR.1 row' h4
      ·rw [h4,zg hj,hk]
     omega
    have hget:c'[i' * k' + j']? = if i' * k' + j' < i * k' + j then c[i' * k' + j']? else if i' * k' + j' < i * k' + j + (cellsOf (evA t x)).length then (a.eval x).cells.toList[i' * k' + j' - (i * k' + j)]? else c[i' * k' + j']?:=by
     simp only [c',List.getElem?_toArray,List.getElem?_append,List.length_append,List.length_take,Array.length_toList];simp only [Array.length_toList] at c1;rw [c1,Nat.min_eq_left (by omega)];by_cases h5:i' * k' + j' < i * k' + j
     ·rw [if_pos (by omega),if_pos h5,if_pos h5,List.getElem?_take,if_pos h5];simp
     ·by_cases h6:i' * k' + j' < i * k' + j + (cellsOf (evA t x)).length
      ·rw [if_pos h6,if_neg h5,if_neg h5,if_pos h6]
      ·rw [if_neg h6,if_neg h5,if_neg h6,List.getElem?_drop,show i * k' + j + (cellsOf (evA t x)).length + (i' * k' + j' - (i * k' + j + (cellsOf (evA t x)).length)) = i' * k' + j' from by omega];simp
    rw [hget] at hv';by_cases hii:i' = i
    ·subst hii;rw [List.getElem?_set_self hi] at hi';simp only [Option.some.injEq] at hi';subst hi';unfold kL at hj';rw [List.getElem?_append,List.getElem?_append] at hj';simp only [List.length_append,List.length_take] at hj';rw [Nat.min_eq_left (by omega)] at hj';by_cases h5:j' < j
     ·rw [if_pos (by omega)] at hv';rw [if_pos (by omega),if_pos h5,List.getElem?_take,if_pos h5] at hj';exact hR.2 i' j' row y v' hr hj' hv'
     ·rw [if_neg (by omega)] at hv';by_cases h6:j' < j + (cellsOf (evA t x)).length
      ·rw [if_pos (by omega),show i' * k' + j' - (i' * k' + j) = j' - j from by omega] at hv';rw [if_pos h6,if_neg h5] at hj';exact c3 _ _ _ hv' hj'
      ·rw [if_neg (by omega)] at hv';rw [if_neg h6,List.getElem?_drop,show j + (cellsOf (evA t x)).length + (j' - (j + (cellsOf (evA t x)).length)) = j' from by omega] at hj';exact hR.2 i' j' row y v' hr hj' hv'
    ·rw [List.getElem?_set_ne (Ne.symm hii)] at hi'
     have hlt:i' * k' + j' < i * k' + j ∨ i * k' + j + (cellsOf (evA t x)).length ≤ i' * k' + j':=by
      rcases Nat.lt_or_ge i' i with h5|h5
      ·left;have:=vN (k:=k') h5 (Nat.le_refl _);omega
      ·right;have:=vN (k:=k') (show i < i' by omega) (Nat.le_refl _);omega
     have hv'' : c[i' * k' + j']? = some v':=by
      rcases hlt with h5|h5
      ·rw [if_pos h5] at hv';exact hv'
      ·rw [if_neg (by omega),if_neg (by omega)] at hv';exact hv'
     exact hR.2 i' j' row' y v' hi' hj' hv''
def yV (c:UInt8):List AV:=[.v (.int .u8 (c.toNat:Int))]
theorem qhO {P:Program} {F:Still} {ρ:Places} {w:World} (s:List UInt8):Src P F ρ w (str s) 1 (s.map yV) (s.map fun c => .int .u8 (c.toNat:Int)):=by
 refine ⟨fun w' _=>⟨by simp [Builtin.lenOf,str,kr],?_⟩,by simp,fun v hv=>?_,fun row hr=>?_,fun i j row x v h1 h2 h3=>?_⟩
 ·have h1:=Lib.run_firstCells_string (P:=P) w' 1 ⟨s.toArray⟩;rw [kr,Lib.strCells_eq] at h1;rw [List.length_map];exact h1
 ·obtain ⟨c,_,rfl⟩:=List.mem_map.1 hv;rfl
 ·obtain ⟨c,_,rfl⟩:=List.mem_map.1 hr;rfl
 ·rw [List.getElem?_map] at h1
  cases hc:s[i]? with
  | none=>rw [hc] at h1;cases h1
  | some c =>
    rw [hc] at h1;simp only [Option.map_some,Option.some.injEq] at h1;subst h1
    cases j with
    | succ j=>simp [yV] at h2
    | zero =>
      simp only [yV,List.getElem?_cons_zero,Option.some.injEq] at h2;subst h2;simp only [Nat.mul_one,Nat.add_zero,List.getElem?_toArray,List.getElem?_map,hc,Option.map_some,Option.some.injEq] at h3;subst h3;exact .v _ _ rfl
theorem WE (T T2 ty' e:Nat) (x y:Operand) (m:Nat) (s:List UInt8) (r re r2:TRec) (hx:evA t x = .sl true []) (hy:evA t y = .v (str s)) (h0:s ≠ []) (hT:qD C.tab T = some r) (he:r.kind = .slice e) (hE:qD C.tab e = some re)
  (h1:re.size = 1) (hz:re.zero.length = 1) (hb1:re.bytes = 1) (hT2:qD C.tab T2 = some r2) (hs2:r2.kind = .string) (hsz:s.length ≤ 140737488355328) (hN:d < N) :
  qz C.P N ⟨some d,.call ⟨.builtin .append, #[x,y], #[T,T2]⟩,ty',pos,af,gd⟩ t h ⟨qW x ++ qW y,[],some d,.os m 0 s.length,[(m,.mp (.typ e 1 (s.map yV)))],[m]⟩:=by
 refine zD (ks:=[]) _ _ m (.mp (.typ e 1 (s.map yV))) [m] (fun d' hd'=>by injection hd' with e;exact e ▸ hN) (.inl rfl) (by simp) ?_;intro B A h' F ρ a w hp hm hh hfr;have q1:=qc (x:=x) hm (fun j hj=>List.mem_append_left _ hj);have q2:=qc (x:=y) hm (fun j hj=>List.mem_append_right _ hj);rw [hx] at q1;rw [hy] at q2;have q2':=q2.v_inv.1;have hρ:ρ m = none:=hfr m (by simp);have hu:=jE (C.ok T r hT) he;have hu2:=zR (C.ok T2 r2 hT2) hs2;obtain ⟨dd,inf,z,_,hi,hz0,_,_,hsize,hbytes,hzc⟩:=jh (C.ok e re hE);obtain ⟨hnews,hnl,hn1,hnR⟩:=qhO (P:=C.P) (F:=F) (ρ:=ρ) (w:=w) s;rw [List.length_map] at hnl;have hpos:0 < s.length:=by cases s with|nil=>exact absurd rfl h0|cons _ _=>simp
 obtain ⟨ad,hv⟩ : ∃ ad,a.eval x = .slice ad 0 0:=by
  rcases q1.sl_inv with ⟨_,ad,cap,hv,hc,_⟩|⟨b,o,cap,c,e',fr,kk,_,_,hc,_,_,_,hv⟩
  ·exact ⟨ad,by rw [hv,hc rfl]⟩
  ·exact ⟨_,by rw [hv,hc rfl];rfl⟩
 have hr:=zo (P:=C.P) (w:=w) (T2:=T2) T ty' e inf z hu hi hz0 ad 0 0 s.length (str s) [] (s.map fun c => .int .u8 (c.toNat:Int)) (fun w' hw'=>by rw [hsize,h1];simpa using hnews w' hw') (fun w' _=>by cases ad<;>simp [Builtin.firstCells,loadCells,loadCellsFrom]) (by omega) (by unfold maxLen;omega) (by rw [hbytes,hb1];omega) (.inl hu2);have hge:=grownCap_ge w (0 + s.length) 0 e;rw [Nat.zero_add] at hr hge
 have hex : ∀ (v:Value) (w2:World),(Builtin.append_ #[T,T2] ty' #[.slice ad 0 0,str s]).run C.P w = .ok v w2 → (execOp a.eval ⟨some d,.call ⟨.builtin .append, #[x,y], #[T,T2]⟩,ty',pos,af,gd⟩).run C.P w = .ok (.value v) w2:=fun v w2 hr=>by
  simp [execOp,resolve,invoke,builtin,hv,q2',hr]
 have hle2:ρ.le (fun n=>if n = m then some (some (w.heap.size,1,grownCap w s.length 0 e)) else ρ n):=fun n c hn=>by
  by_cases hnm:n = m
  ·subst hnm;rw [hρ] at hn;cases hn
  ·simpa [hnm] using hn
 refine ⟨.value _,_,some (w.heap.size,1,grownCap w s.length 0 e),none,hex _ _ hr,.inr ⟨_,rfl,?_⟩,.inl hρ,hp.kept.drew.alloc _,(fun b hb=>by cases hb),fun b hb _=>Below.heap_alloc _ _ _ hb,(fun b c hb=>by simp only [Option.some.injEq,Prod.mk.injEq] at hb;exact .inr (by omega)),⟨w.heap.size,_,(1,grownCap w s.length 0 e),by simp,heap_alloc_new w.drew _,_,rfl,rfl,?_,by simpa using hge,?_⟩,(fun h=>by cases h)⟩
 ·have:=M.os (F:=F) (fun n=>if n = m then some (some (w.heap.size,1,grownCap w s.length 0 e)) else ρ n) m w.heap.size 1 (grownCap w s.length 0 e) 0 s.length ⟨w.heap.size,0,none⟩ (by simp) (by omega) (fun _=>by simp);simpa using this
 ·have:=QD (k:=1) (z:=z) (olds:=[]) (news:=s.map fun c => .int .u8 (c.toNat:Int)) (n:=0) (m:=s.length) (by rw [hzc];simpa using hz) (by simp) (by simpa using hnl) (by simpa using hge);simpa using this
 ·have:=(RowsAt.grown (z:=Builtin.zeroCells z.cells (grownCap w s.length 0 e - s.length)) (F:=F) (ρ:=ρ) (k:=1) (olds:=[]) (rows:=[]) ⟨(fun row hr=>by cases hr),fun i j row x v h1=>by simp at h1⟩ hnR (by simp) (by simpa using hnl)).mono (Still.le_refl F) hle2;simpa using this
theorem Yj {P:Program} {w w2:World} {T2:TypeId} (T ty e:TypeId) (i:TypeInfo) (ht:P.underlying T = some (.slice e)) (hi:P.info? e = some i) (ad:Addr) (n cap m:Nat) (x:Value) (news:List Value)
  (hx:(Builtin.lenOf x).run P w = .ok m w) (hx2:(Builtin.firstCells i.size m x).run P w = .ok news.toArray w) (hg:n + m ≤ cap) (hst:(storeCells (ad.add (n * i.size)) news).run P w = .ok () w2) (h2:P.underlying T2 = some .string) :
  (Builtin.append_ #[T,T2] ty #[.slice (some ad) n cap,x]).run P w = .ok (.slice (some ad) (n + m) cap) w2:=by
 simp [Builtin.append_,run_underlying ht,run_underlying h2,sizeOf,typeInfo,hi,hx,hg,hx2,hst]
theorem qaM (T T2 ty' e:Nat) (x y:Operand) (m n:Nat) (l s:List UInt8) (r re r2:TRec) (hx:evA t x = .os n 0 l.length) (hn:h n = .mp (.typ e 1 (l.map yV))) (hy:evA t y = .v (str s)) (hT:qD C.tab T = some r) (he:r.kind = .slice e) (hE:qD C.tab e = some re)
  (h1:re.size = 1) (hz:re.zero.length = 1) (hb1:re.bytes = 1) (hT2:qD C.tab T2 = some r2) (hs2:r2.kind = .string) (hsz:l.length + s.length ≤ 140737488355328) (hmn:m ≠ n) (hN:d < N) :
  qz C.P N ⟨some d,.call ⟨.builtin .append, #[x,y], #[T,T2]⟩,ty',pos,af,gd⟩ t h ⟨qW x ++ qW y,[n],some d,.os m 0 (l ++ s).length,[(m,.mp (.typ e 1 ((l ++ s).map yV))),(n,.dead)],[m]⟩:=by
 refine zD (ks:=[n]) _ _ m (.mp (.typ e 1 ((l ++ s).map yV))) [m] (fun d' hd'=>by injection hd' with e;exact e ▸ hN) (.inl rfl) (by simp) ?_;intro B A h' F ρ a w hp hm hh hfr;have q1:=qc (x:=x) hm (fun j hj=>List.mem_append_left _ hj);have q2:=qc (x:=y) hm (fun j hj=>List.mem_append_right _ hj);rw [hx] at q1;rw [hy] at q2;have q2':=q2.v_inv.1;have hρ:ρ m = none:=hfr m (by simp);have hu:=jE (C.ok T r hT) he;have hu2:=zR (C.ok T2 r2 hT2) hs2;obtain ⟨dd,inf,z,_,hi,hz0,_,_,hsize,hbytes,hzc⟩:=jh (C.ok e re hE);obtain ⟨hnews,hnl,hn1,hnR⟩:=qhO (P:=C.P) (F:=F) (ρ:=ρ) (w:=w) s;rw [List.length_map] at hnl;have hn' : h' n = .mp (.typ e 1 (l.map yV)):=(hh n (by simp)).trans hn;have ho:=hp.own n;rw [hn'] at ho;have hsum:(l ++ s).length = l.length + s.length:=List.length_append
 rcases q1.os_inv with ⟨hρn,_,_,ad,hv⟩|⟨b,k',cap,ad,hρn,hv,hcap,ha⟩
 ·obtain ⟨b,k',cap,hs⟩:=qlO ho;rw [hρn] at hs;cases hs
 obtain ⟨rfl,c,hb,hcs,hle,hR⟩:=Qq ho hρn;rw [Nat.sub_zero] at hv;simp only [Nat.mul_one,List.length_map] at hcs hle
 have hex : ∀ (v:Value) (w2:World),(Builtin.append_ #[T,T2] ty' #[.slice (some ad) l.length cap,str s]).run C.P w = .ok v w2 → (execOp a.eval ⟨some d,.call ⟨.builtin .append, #[x,y], #[T,T2]⟩,ty',pos,af,gd⟩).run C.P w = .ok (.value v) w2:=fun v w2 hr=>by
  simp [execOp,resolve,invoke,builtin,hv,q2',hr]
 have hRt : ∀ (i j:Nat) row x v,(l.map yV)[i]? = some row → row[j]? = some x → (c.toList.take l.length).toArray[i * 1 + j]? = some v → M F ρ v x:=fun i j row x v h3 h4 h5=>by
  simp only [List.getElem?_toArray,List.getElem?_take] at h5;split at h5
  ·exact hR.2 i j row x v h3 h4 (by simpa using h5)
  ·cases h5
 have hcell : ∀ row,row ∈ l.map yV → row.length = 1:=hR.1;have hol:(c.toList.take l.length).length = (l.map yV).length * 1:=by simp;omega
 by_cases hroom:l.length + s.length ≤ cap
 ·
  let c' : Array Value:=(c.toList.take l.length ++ (s.map fun c=>Value.int .u8 (c.toNat:Int)) ++ c.toList.drop (l.length + s.length)).toArray
  have hblk:=(hp.new n b _ (by rw [hn'];rfl) hρn).2
  have hst : ∃ w2,(Builtin.append_ #[T,T2] ty' #[.slice (some ad) l.length cap,str s]).run C.P w = .ok (.slice (some ad) (l.length + s.length) cap) w2 ∧ (∀ b',b' ≠ b → w2.heap[b']? = w.heap[b']?) ∧ w2.heap[b]? = some (.cells c' e (0,0)) ∧ B.kept w2:=by
   have e1:=hnews w rfl;have e2:=e1.2;rw [← h1, ← hsize] at e2;simp only [List.length_map] at e1 e2;by_cases hcap0:cap = 0
   ·have hs0:s = []:=List.eq_nil_of_length_eq_zero (by omega);have hl0:l = []:=List.eq_nil_of_length_eq_zero (by omega);subst hs0;subst hl0;subst hcap0;refine ⟨w,?_,fun _ _=>rfl,?_,hp.kept⟩
    ·exact Yj T ty' e inf hu hi ad 0 0 0 (str []) [] e1.1 e2 (Nat.le_refl _) (by simp [storeCells]) hu2
    ·rw [hb];have:c' = c:=by simp [c']
     rw [this]
   ·have had:ad = ⟨b,0,none⟩:=by have:=ha (by omega);simpa using this
    subst had;have hs:=run_storeCells_at C.P b l.length e (s.map fun c => .int .u8 (c.toNat:Int)) 0 c w hb (by simp;omega) hn1;simp only [Nat.add_zero,List.length_map] at hs;refine ⟨w.setRow b c',?_,fun b' hb'=>setRow_other _ _ _ _ hb',setRow_heap _ _ _ _ _ _ hb,?_⟩
    ·have hadd:(⟨b,0,none⟩ : Addr).add (l.length * inf.size) = ⟨b,l.length,none⟩:=by rw [hsize,h1,Nat.mul_one];exact qj3 b _
     exact Yj T ty' e inf hu hi _ l.length cap s.length (str s) _ e1.1 e2 hroom (by rw [hadd];exact hs) hu2
    ·refine ⟨hp.kept.os,hp.kept.tape,hp.kept.output,by simpa [World.setRow] using hp.kept.size,fun b' hb' ho'=>?_⟩
     rw [setRow_other _ _ _ _ (by rintro rfl;rcases hblk with hblk|hblk; · omega
                                  ·exact ho' hblk)]
     exact hp.kept.block b' hb' ho'
  obtain ⟨w2,s1,s2,s3,s4⟩:=hst
  refine ⟨.value _,w2,some (b,1,cap),some b,hex _ _ s1,.inr ⟨_,rfl,?_⟩,.inl hρ,s4,(fun b' hb'=>by simp only [Option.some.injEq] at hb';subst hb';exact ⟨n,_,.inr rfl,by rw [hn'];rfl,hρn⟩),(fun b' _ hb'=>s2 b' (fun e=>hb' (by rw [e]))),(fun b' c'' he=>by simp only [Option.some.injEq,Prod.mk.injEq] at he;exact .inl (by rw [he.1])),
   ⟨b,_,(1,cap),by simp,s3,c',rfl,rfl,?_,by rw [List.length_map,hsum];exact hroom,?_⟩,(fun h=>by cases h)⟩
  ·have:=M.os (F:=F) (fun n=>if n = m then some (some (b,1,cap)) else ρ n) m b 1 cap 0 (l.length + s.length) ad (by simp) (by omega) (fun h=>by simpa using ha h);rw [hsum];simpa using this
  ·simp only [c',List.size_toArray,List.length_append,List.length_take,List.length_drop,Array.length_toList,List.length_map];omega
  ·have hle2:ρ.le (fun n=>if n = m then some (some (b,1,cap)) else ρ n):=fun n c hn=>by
    by_cases hnm:n = m
    ·subst hnm;rw [hρ] at hn;cases hn
    ·simpa [hnm] using hn
   rw [List.map_append];exact (RowsAt.app (olds:=c.toList.take l.length) (news:=s.map fun c => .int .u8 (c.toNat:Int)) (rest:=c.toList.drop (l.length + s.length)) ⟨hcell,hRt⟩ hnR hol (by simp)).mono (Still.le_refl F) hle2
 ·
  have hold : ∀ w' : World,w'.heap = w.heap → (Builtin.firstCells inf.size l.length (.slice (some ad) l.length cap)).run C.P w' = .ok (c.toList.take l.length).toArray w':=fun w' hw'=>by
   by_cases hl0:l.length = 0
   ·rw [hl0];simp [Builtin.firstCells,loadCells,loadCellsFrom]
   ·have had:=ha (by omega);rw [Nat.zero_mul] at had;subst had;have hlo:(c.toList.take l.length).length = l.length:=by simp;omega
    have:=run_loadCells_list (P:=C.P) w' ⟨b,0,none⟩ (c.toList.take l.length) (fun i v hiv=>by
     rw [List.getElem?_take] at hiv;split at hiv
     ·rw [qj3];simp [World.cell?,hw',hb,(by simpa using hiv:c[i]? = some v)]
     ·cases hiv)
    rw [hlo] at this;rw [hsize,h1];simpa [Builtin.firstCells] using this
  have hr:=zo (P:=C.P) (w:=w) (T2:=T2) T ty' e inf z hu hi hz0 (some ad) l.length cap s.length (str s) (c.toList.take l.length) (s.map fun c => .int .u8 (c.toNat:Int)) (fun w' hw'=>by rw [hsize,h1];simpa using hnews w' hw') hold (by omega) (by unfold maxLen;omega) (by rw [hbytes,hb1];omega) (.inl hu2);have hge:=grownCap_ge w (l.length + s.length) cap e;refine ⟨.value _,_,some (w.heap.size,1,grownCap w (l.length + s.length) cap e),none,hex _ _ hr,.inr ⟨_,rfl,?_⟩,.inl hρ,hp.kept.drew.alloc _,(fun b hb=>by cases hb),fun b hb _=>Below.heap_alloc _ _ _ hb,(fun b c hb=>by simp only [Option.some.injEq,Prod.mk.injEq] at hb;exact .inr (by omega)),⟨w.heap.size,_,(1,grownCap w (l.length + s.length) cap e),by simp,heap_alloc_new w.drew _,_,rfl,rfl,?_,by rw [List.length_map,hsum];exact hge,?_⟩,(fun h=>by cases h)⟩
  ·have:=M.os (F:=F) (fun n=>if n = m then some (some (w.heap.size,1,grownCap w (l.length + s.length) cap e)) else ρ n) m w.heap.size 1 (grownCap w (l.length + s.length) cap e) 0 (l.length + s.length) ⟨w.heap.size,0,none⟩ (by simp) (by omega) (fun _=>by simp);rw [hsum];simpa using this
  ·exact QD (k:=1) (by rw [hzc];simpa using hz) (by simp;omega) (by simp) hge
  ·have hle2:ρ.le (fun n=>if n = m then some (some (w.heap.size,1,grownCap w (l.length + s.length) cap e)) else ρ n):=fun n c hn=>by
    by_cases hnm:n = m
    ·subst hnm;rw [hρ] at hn;cases hn
    ·simpa [hnm] using hn
   rw [List.map_append];exact (RowsAt.grown (k:=1) ⟨hcell,hRt⟩ hnR hol (by simp)).mono (Still.le_refl F) hle2
theorem qhm (op:BinOp) (T e:Nat) (x:Operand) (yT:TypeId) (r:TRec) (b:Bool) (hx:(evA t x = .v (.pointer none) ∧ b = (if op = .eql then true else false)) ∨ (∃ n i j,evA t x = .op n i j) ∧ b = (if op = .eql then false else true)) (hT:qD C.tab T = some r) (he:r.kind = .pointer e) (hop:op = .eql ∨ op = .neq) (hN:d < N) :
  qz C.P N ⟨some d,.binOp op T x (.const (.pointer none)) yT,ty,pos,af,gd⟩ t h ⟨qW x,[],some d,.v (.bool b),[],[]⟩ :=
 qN _ _ rfl hN fun F ρ a w _ hs _=>by
  have h1:=qc (x:=x) hs (fun j hj=>hj);obtain ⟨dd,inf,z,hu,_,_,hk,_⟩:=jh (C.ok T r hT)
  have hu' : C.P.underlying T = some (.pointer e):=by
   rw [hu];rw [hk] at he;cases dd<;>simp [yO] at he ⊢;exact he
  have hc:a.eval (.const (.pointer none)) = .pointer none:=rfl
  have key : ∀ p:Option Addr,(Op.equal T (.pointer p) (.pointer none)).run C.P w = .ok p.isNone w:=fun p=>by
   show (Op.equalIn (9999 + 1) T (.pointer p) (.pointer none)).run C.P w = _;unfold Op.equalIn;cases p<;>simp [run_underlying hu']
  rcases hx with ⟨hx,rfl⟩|⟨⟨n,i,j,hx⟩,rfl⟩
  ·rw [hx] at h1;have hv:=h1.v_inv.1;have h2:=key none;refine ⟨_,?_,.v _ _ rfl⟩;rcases hop with rfl|rfl<;>simp [execOp,hv,hc,eqGuard,binOp,h2]
  ·rw [hx] at h1;obtain ⟨b,k,cap,hρ,hv⟩:=h1.op_inv;have h2:=key (some ⟨b,i * k + j,none⟩);refine ⟨_,?_,.v _ _ rfl⟩;rcases hop with rfl|rfl<;>simp [execOp,hv,hc,eqGuard,binOp,h2]
theorem qdK (op:BinOp) (T e n i j:Nat) (x y:Operand) (yT:TypeId) (r re:TRec) (hx:evA t x = .op n i j) (hy:evA t y = .op n i j) (hT:qD C.tab T = some r) (he:r.kind = .pointer e) (hE:qD C.tab e = some re) (h0:re.size ≠ 0) (hop:op = .eql ∨ op = .neq) (hN:d < N) :
  qz C.P N ⟨some d,.binOp op T x y yT,ty,pos,af,gd⟩ t h ⟨qW x ++ qW y,[],some d,.v (.bool (if op = .eql then true else false)),[],[]⟩ :=
 qN _ _ rfl hN fun F ρ a w _ hs _=>by
  have h1:=qc (x:=x) hs (fun j hj=>List.mem_append_left _ hj);have h2:=qc (x:=y) hs (fun j hj=>List.mem_append_right _ hj);rw [hx] at h1;rw [hy] at h2;obtain ⟨dd,inf,z,hu,_,_,hk,_⟩:=jh (C.ok T r hT)
  have hu' : C.P.underlying T = some (.pointer e):=by
   rw [hu];rw [hk] at he;cases dd<;>simp [yO] at he ⊢;exact he
  obtain ⟨b,k,cap,hρ,hv⟩:=h1.op_inv;obtain ⟨b',k',cap',hρ',hv'⟩:=h2.op_inv;rw [hρ] at hρ';simp only [Option.some.injEq,Prod.mk.injEq] at hρ';obtain ⟨rfl,rfl,rfl⟩:=hρ';have hsz:=j0 (C.ok e re hE) (w:=w)
  have key:(Op.equal T (.pointer (some ⟨b,i * k + j,none⟩)) (.pointer (some ⟨b,i * k + j,none⟩))).run C.P w = .ok true w:=by
   show (Op.equalIn (9999 + 1) T _ _).run C.P w = _;unfold Op.equalIn;simp [run_underlying hu',hsz,h0,sameAddr]
  refine ⟨_,?_,.v _ _ rfl⟩;rcases hop with rfl|rfl<;>simp [execOp,hv,hv',eqGuard,binOp,key]
theorem KP (op:BinOp) (T:Nat) (x:Operand) (yT:TypeId) {ms:_} (b:Bool) (hx:(evA t x = .v .nilIface ∧ b = (if op = .eql then true else false)) ∨ evA t x = .errv ∧ b = (if op = .eql then false else true)) (hu:C.P.underlying T = some (.interface ms)) (hop:op = .eql ∨ op = .neq) (hN:d < N) :
  qz C.P N ⟨some d,.binOp op T x (.const .nilIface) yT,ty,pos,af,gd⟩ t h ⟨qW x,[],some d,.v (.bool b),[],[]⟩ :=
 qN _ _ rfl hN fun F ρ a w _ hs _=>by
  have h1:=qc (x:=x) hs (fun j hj=>hj);have hc:a.eval (.const .nilIface) = .nilIface:=rfl
  rcases hx with ⟨hx,rfl⟩|⟨hx,rfl⟩
  ·rw [hx] at h1;have hv:=h1.v_inv.1
   have h2:(Op.equal T .nilIface .nilIface).run C.P w = .ok true w:=by
    show (Op.equalIn (9999 + 1) T _ _).run C.P w = _;unfold Op.equalIn;simp [run_underlying hu]
   refine ⟨_,?_,.v _ _ rfl⟩;rcases hop with rfl|rfl<;>simp [execOp,hv,hc,eqGuard,binOp,h2]
  ·rw [hx] at h1;generalize hv:a.eval x = v at h1
   cases h1 with
   | errv _ tt u =>
     have h2:(Op.equal T (.iface tt u) .nilIface).run C.P w = .ok false w:=by
      show (Op.equalIn (9999 + 1) T _ _).run C.P w = _;unfold Op.equalIn;simp [run_underlying hu]
     refine ⟨_,?_,.v _ _ rfl⟩;rcases hop with rfl|rfl<;>simp [execOp,hv,hc,eqGuard,binOp,h2]
theorem qfw (src dst e n j:Nat) (x:Operand) (te:TypeId) (k:Nat) (row:List AV) (r re:TRec) (hx:evA t x = .op n 0 j) (hn:h n = .mp (.typ te k [row])) (hj:j < row.length) (hT:qD C.tab src = some r) (he:r.kind = .pointer e) (hE:qD C.tab e = some re) (h0:re.size ≠ 0) (hd:C.P.underlying dst = some .unsafePointer) (hN:d < N) :
  qz C.P N ⟨some d,.convert src dst x,ty,pos,af,gd⟩ t h ⟨qW x,[n],some d,.op n 0 j,[],[]⟩ :=
 qN _ _ rfl hN fun F ρ a w hag hs hh=>by
  have h1:=qc (x:=x) hs (fun j hj=>hj);have h1':=h1;rw [hx] at h1;obtain ⟨dd,inf,z,hu,_,_,hk,_⟩:=jh (C.ok src r hT)
  have hu' : C.P.underlying src = some (.pointer e):=by
   rw [hu];rw [hk] at he;cases dd<;>simp [yO] at he ⊢;exact he
  obtain ⟨b,k',cap,hρ,hv⟩:=h1.op_inv;have h2:=hh n (by simp);rw [hn] at h2;obtain ⟨rfl,c,hb,hcs,hle,hR⟩:=Qq h2 hρ;have hk':=hR.1 row (List.mem_singleton.2 rfl);simp only [List.length_singleton] at hle
  have hjc:j < c.size:=by
   have:k' ≤ cap * k':=Nat.le_mul_of_pos_left _ hle;omega
  obtain ⟨_,inf2,_,_,hi2,_,_,_,hs2,_⟩:=jh (C.ok e re hE);have hcell:w.cell? ⟨b,j,none⟩ = some c[j]:=by simp [World.cell?,hb,hjc]
  have hv' : a.eval x = .pointer (some ⟨b,j,none⟩):=by rw [hv];simp
  have hrun:=run_convert_to_unsafe (P:=C.P) (w:=w) hu' hd (by rw [hi2];simp [hs2,h0]) hcell;exact ⟨.pointer (some ⟨b,j,none⟩),by simp [execOp,hv',hrun],by rw [hx,hv'] at h1';exact h1'⟩
theorem qcg (src dst e n j:Nat) (x:Operand) (te:TypeId) (k:Nat) (row:List AV) (r re:TRec) (hx:evA t x = .op n 0 j) (hn:h n = .mp (.typ te k [row])) (hT:qD C.tab dst = some r) (he:r.kind = .pointer e) (hE:qD C.tab e = some re) (hs:C.P.underlying src = some .unsafePointer)
  (hlies : ∀ cap,1 ≤ cap → liesAt C.P C.P.depth te (cap * k / C.P.cellsOf te) j e 1 = true) (hN:d < N) :
  qz C.P N ⟨some d,.convert src dst x,ty,pos,af,gd⟩ t h ⟨qW x,[n],some d,.op n 0 j,[],[]⟩ :=
 qN _ _ rfl hN fun F ρ a w hag hss hh=>by
  have h1:=qc (x:=x) hss (fun j hj=>hj);have h1':=h1;rw [hx] at h1;obtain ⟨dd,inf,z,hu,_,_,hk,_⟩:=jh (C.ok dst r hT)
  have hu' : C.P.underlying dst = some (.pointer e):=by
   rw [hu];rw [hk] at he;cases dd<;>simp [yO] at he ⊢;exact he
  obtain ⟨b,k',cap,hρ,hv⟩:=h1.op_inv;have h2:=hh n (by simp);rw [hn] at h2;obtain ⟨rfl,c,hb,hcs,hle,hR⟩:=Qq h2 hρ;simp only [List.length_singleton] at hle;have hl:=hlies cap hle;rw [← hcs] at hl;have hsh:w.shape? b = some (te,c.size):=by simp [World.shape?,hb]
  have hv' : a.eval x = .pointer (some ⟨b,j,none⟩):=by rw [hv];simp
  have hvar:(variablesAt ⟨b,j,none⟩ e 1).run C.P w = .ok true w:=by
   simp [variablesAt,hsh,hl]
  have hrun:(convert src dst (.pointer (some ⟨b,j,none⟩))).run C.P w = .ok (.pointer (some ⟨b,j,none⟩)) w:=by
   have e1:(Conv.seenAt ⟨b,j,none⟩).run C.P w = .ok ⟨b,j,none⟩ w:=by simp [Conv.seenAt,viewAt,hsh]
   have e2:(Conv.unsafePointer src dst (.pointer (some ⟨b,j,none⟩))).run C.P w = .ok (.pointer (some ⟨b,j,none⟩)) w:=by
    simp only [Conv.unsafePointer,Sem.run_bind,run_underlying hs,run_underlying hu',Result.andThen_ok,e1];have hsz:=j0 (C.ok e re hE) (w:=w);by_cases hz:re.size = 0
    ·simp [hsz,hz,hvar]
    ·simp [hsz,hz,hvar]
   simp [convert,run_underlying hs,run_underlying hu',e2]
  exact ⟨.pointer (some ⟨b,j,none⟩),by simp [execOp,hv',hrun],by rw [hx,hv'] at h1';exact h1'⟩
theorem qmI (f:FuncId) (fn:Func) (tys:Array TypeId) (x:Operand) (y:AV) (hx:evA t x = y) (hf:C.P.funcs[f]? = some fn) (hname:(fn.name == "runtime.NumGoroutine") = false)
  (hb:fn.body.isNone = true) (hnx:Extern.findNext fn = none) (hex:Extern.find fn = some Extern.AbiNoEscape.same) (hN:d < N) :
  qz C.P N ⟨some d,.call ⟨.value (.func f), #[x],tys⟩,ty,pos,af,gd⟩ t h ⟨qW x,[],some d,y,[],[]⟩ :=
 qN _ _ rfl hN fun F ρ act w _ hs _=>by
  have h1:=qc (x:=x) hs (fun j hj=>hj);rw [hx] at h1;refine ⟨act.eval x,?_,h1⟩;have hcall:=run_callFunc_extern hf hname hb hnx hex #[act.eval x] w;have hcall' : Sem.run C.P (callFunc f #[act.eval x]) w = Result.ok (.value (act.eval x)) w:=by rw [hcall];rfl
  have he' : act.eval (.func f) = .func (.func f) #[] #[]:=rfl;simp [execOp,resolve,invoke,he',Deferred.ofValue,hcall']
theorem Yz (T:TypeId) (x:Operand) (hx:evA t x = .agg []) (hc:C.P.concrete T = true) (hN:d < N) :
  qz C.P N ⟨some d,.makeInterface T x,ty,pos,af,gd⟩ t h ⟨qW x,[],some d,.v (.iface T (.agg #[])),[],[]⟩ :=
 qN _ _ rfl hN fun F ρ a w _ hs _=>by
  have h1:=qc (x:=x) hs (fun j hj=>hj);rw [hx] at h1;obtain ⟨vs,hv,hl,_⟩:=h1.agg_inv;have:vs = []:=List.eq_nil_of_length_eq_zero hl;subst this;have hr:=run_makeInterface (P:=C.P) (w:=w) T (.agg #[]) hc;exact ⟨_,by simp [execOp,hv,hr],.v _ _ rfl⟩
theorem qoe (tys:Array TypeId) (ty' : TypeId) (x:Operand) (n len:Nat) (e:TypeId) (k:Nat) (rows:List (List AV)) (hx:evA t x = .os n 0 len) (hn:h n = .mp (.typ e k rows)) (h0:0 < len) (hN:d < N) :
  qz C.P N ⟨some d,.call ⟨.builtin .unsafeSliceData, #[x],tys⟩,ty',pos,af,gd⟩ t h ⟨qW x,[n],some d,.op n 0 0,[],[]⟩ :=
 qN _ _ rfl hN fun F ρ a w _ hs hh=>by
  have h1:=qc (x:=x) hs (fun j hj=>hj);rw [hx] at h1
  rcases h1.os_inv with ⟨_,_,rfl,ad0,hv⟩|⟨b,k',cap,ad,hρ,hv,hl,ha⟩
  ·omega
  ·have had:=ha (by omega);rw [Nat.zero_mul] at had;subst had;rw [Nat.sub_zero] at hv;have hr:=Lib.run_unsafeSliceData_row (P:=C.P) w tys ty' ⟨b,0,none⟩ len cap (by omega);exact ⟨.pointer (some ⟨b,0,none⟩),by simp [execOp,resolve,invoke,builtin,hv,hr],by simpa using M.op (F:=F) ρ n b k' cap 0 0 hρ⟩
theorem qmJ (pt it ty' : TypeId) (x y:Operand) (n e:Nat) (s:List UInt8) (r:TRec) (hx:evA t x = .op n 0 0) (hy:evA t y = .v (.int .i64 (s.length:Int))) (hn:h n = .mp (.typ e 1 (s.map yV))) (h0:s ≠ []) (hT:qD C.tab pt = some r) (he:r.kind = .pointer e) (hc:C.P.cellsOf e = 1) (h63:s.length ≤ 9223372036854775807) (hN:d < N) :
  qz C.P N ⟨some d,.call ⟨.builtin .unsafeString, #[x,y], #[pt,it]⟩,ty',pos,af,gd⟩ t h ⟨qW x ++ qW y,[n],some d,.v (str s),[(n,.dead)],[]⟩:=by
 refine zD (ks:=[]) _ _ n .dead [] (fun d' hd'=>by injection hd' with e;exact e ▸ hN) (.inr rfl) (by simp) ?_;intro B A h' F ρ a w hp hm hh _;have h1:=qc (x:=x) hm (fun j hj=>List.mem_append_left _ hj);have h2:=qc (x:=y) hm (fun j hj=>List.mem_append_right _ hj);rw [hx] at h1;rw [hy] at h2;have hvy:=h2.v_inv.1;obtain ⟨dd,inf,z,hu,_,_,hk,_⟩:=jh (C.ok pt r hT)
 have hu' : C.P.underlying pt = some (.pointer e):=by
  rw [hu];rw [hk] at he;cases dd<;>simp [yO] at he ⊢;exact he
 have hn' : h' n = .mp (.typ e 1 (s.map yV)):=(hh n (by simp)).trans hn;have ho:=hp.own n;rw [hn'] at ho;obtain ⟨b,k,cap,hρ,hv⟩:=h1.op_inv;obtain ⟨rfl,c,hb,hcs,hle,hR⟩:=Qq ho hρ;simp only [Nat.mul_one,List.length_map] at hcs hle;have hv' : a.eval x = .pointer (some ⟨b,0,none⟩):=by rw [hv]
 have hrun:=Lib.run_unsafeString_row (P:=C.P) w pt it ty' e hu' hc b c.size (by simp [World.shape?,hb]) s h0 (by omega) h63 (fun j x hj=>by
  have hjl:j < s.length:=(List.getElem?_eq_some_iff.1 hj).1;have hjc:j < c.size:=by omega
  have hm:=hR.2 j 0 (yV x) (.v (.int .u8 (x.toNat:Int))) c[j] (by rw [List.getElem?_map,hj];rfl) rfl (by simp [hjc]);have hcj:=hm.v_inv.1;rw [qj3]
  simp [World.cell?,hb,hjc,hcj])
 have hnew:=(hp.new n b _ (by rw [hn'];rfl) hρ).2
 have hpl:(fun m=>if m = n then some (some (b,1,cap)) else ρ m) = ρ:=by
  funext m;by_cases hmn:m = n
  ·subst hmn;simp [hρ]
  ·simp [hmn]
 have hfz : ∀ b',b' ≠ b → (w.freeze ⟨b,0,none⟩ s.length).heap[b']? = w.heap[b']?:=fun b' hb'=>by
  unfold World.freeze;split
  ·rfl
  ·simp only [Array.getElem?_modify];rw [if_neg (Ne.symm hb')]
 have hfs:(w.freeze ⟨b,0,none⟩ s.length).heap.size = w.heap.size:=by
  unfold World.freeze;split
  ·rfl
  ·simp
 refine ⟨.value (str s),w.freeze ⟨b,0,none⟩ s.length,some (b,1,cap),some b,?_,.inr ⟨_,rfl,.v _ _ rfl⟩,.inr hρ,?_,?_,?_,?_,trivial,fun _=>by rw [hρ];simp⟩
 ·have hrun' : (Builtin.unsafeString_ #[pt,it] ty' #[.pointer (some ⟨b,0,none⟩),.int .i64 (s.length:Int)]).run C.P w = .ok (str s) (w.freeze ⟨b,0,none⟩ s.length):=hrun;simp [execOp,resolve,invoke,builtin,hv',hvy,hrun']
 ·refine ⟨?_,?_,?_,by rw [hfs];exact hp.kept.size,fun b' hb' ho=>?_⟩
  ·unfold World.freeze;split<;>exact hp.kept.os
  ·unfold World.freeze;split<;>exact hp.kept.tape
  ·unfold World.freeze;split<;>exact hp.kept.output
  ·rw [hfz b' (by rintro rfl;rcases hnew with hnew|hnew; · omega
                  ·exact ho hnew)]
   exact hp.kept.block b' hb' ho
 ·intro b' hb';simp only [Option.some.injEq] at hb';subst hb';exact ⟨n,_,.inl rfl,by rw [hn'];rfl,hρ⟩
 ·intro b' _ hb';exact hfz b' (fun e=>hb' (by rw [e]))
 ·intro b' c'' he;simp only [Option.some.injEq,Prod.mk.injEq] at he;exact .inl (by rw [he.1])
end ops
theorem qnO {L:List (Nat × Nat)} {nh:Nat} {σ:St} {n n' : Nat} {e:TypeId} {k:Nat} {rows rows' : List (List AV)} {l:List (Nat × HB)} (hl:yd L nh σ l) (hr:zX L nh rows rows') (hm:Maps L nh n n':=by (first|exact jy rfl|exact .inr (List.mem_cons_self ..)|exact .inr (List.mem_cons_of_mem _ (List.mem_cons_self ..))|exact .inr (List.mem_cons_of_mem _ (List.mem_cons_of_mem _ (List.mem_cons_self ..)))|exact .inr (List.mem_cons_of_mem _ (List.mem_cons_of_mem _ (List.mem_cons_of_mem _ (List.mem_cons_self ..)))))) (hx:qh σ.hs n = .mp (.typ e k rows):=by rfl):yd L nh σ ((n',.mp (.typ e k rows')) :: l):=⟨⟨n,hm,by rw [hx];exact ⟨rfl,rfl,hr⟩⟩,hl⟩
theorem qlr {L:List (Nat × Nat)} {nh:Nat} {σ:St} {n n' : Nat} {e:TypeId} {k:Nat} {row row' : List AV} {l:List (Nat × HB)} (hl:yd L nh σ l) (hr:j1 L nh row row') (hm:Maps L nh n n':=by (first|exact jy rfl|exact .inr (List.mem_cons_self ..)|exact .inr (List.mem_cons_of_mem _ (List.mem_cons_self ..))|exact .inr (List.mem_cons_of_mem _ (List.mem_cons_of_mem _ (List.mem_cons_self ..)))|exact .inr (List.mem_cons_of_mem _ (List.mem_cons_of_mem _ (List.mem_cons_of_mem _ (List.mem_cons_self ..)))))) (hx:qh σ.hs n = .mp (.typ e k [row]):=by rfl):yd L nh σ ((n',.mp (.typ e k [row'])) :: l):=qnO hl (yL hr xg) hm hx
theorem qnd {L:List (Nat × Nat)} {nh:Nat} {σ:St} {n n' : Nat} {e:TypeId} {s s' : List UInt8} {l:List (Nat × HB)} (hl:yd L nh σ l) (hs:s = s') (hm:Maps L nh n n':=by (first|exact jy rfl|exact .inr (List.mem_cons_self ..)|exact .inr (List.mem_cons_of_mem _ (List.mem_cons_self ..))|exact .inr (List.mem_cons_of_mem _ (List.mem_cons_of_mem _ (List.mem_cons_self ..)))|exact .inr (List.mem_cons_of_mem _ (List.mem_cons_of_mem _ (List.mem_cons_of_mem _ (List.mem_cons_self ..)))))) (hx:qh σ.hs n = .mp (.typ e 1 (s.map yV)):=by rfl):yd L nh σ ((n',.mp (.typ e 1 (s'.map yV))) :: l):=qnO hl (hs ▸ YX fun _=>rfl) hm hx
theorem zh {L:List (Nat × Nat)} {nh:Nat} {e:TypeId} {k:Nat} {row row' : List AV} (hr:j1 L nh row row'):xb L nh (.mp (.typ e k [row])) (.mp (.typ e k [row'])):=⟨rfl,rfl,yL hr xg⟩
theorem wq {L:List (Nat × Nat)} {nh:Nat} {e:TypeId} {s:List UInt8}:xb L nh (.mp (.typ e 1 (s.map yV))) (.mp (.typ e 1 (s.map yV))):=⟨rfl,rfl,YX fun _=>rfl⟩
theorem qeB {L:List (Nat × Nat)} {nh:Nat} {fn:Fn} {xs xs' ys ys' : List AV} (h1:j1 L nh xs xs') (h2:j1 L nh ys ys'):yA L nh (.clo fn xs ys) (.clo fn xs' ys'):=fun F ρ ρ' v h hm=>by
 cases hm with
 | clo _ _ vs us _ _ hl hm q1 q2 =>
   refine .clo _ fn vs us xs' ys' (by rw [hl,h1.1]) (by rw [hm,h2.1]) (fun i u y hu hy=>?_) (fun i u y hu hy=>?_)
   ·have hi:i < xs.length:=by rw [h1.1];exact (List.getElem?_eq_some_iff.1 hy).1
    exact h1.2 i _ y (List.getElem?_eq_getElem hi) hy F ρ ρ' u h (q1 i u _ hu (List.getElem?_eq_getElem hi))
   ·have hi:i < ys.length:=by rw [h2.1];exact (List.getElem?_eq_some_iff.1 hy).1
    exact h2.2 i _ y (List.getElem?_eq_getElem hi) hy F ρ ρ' u h (q2 i u _ hu (List.getElem?_eq_getElem hi))
theorem qcA {L:List (Nat × Nat)} {nh:Nat} {σ:St} {i n n' a b:Nat} {fn:Fn} {l:List (Nat × AV)} (hl:y7 L nh σ l) (hm:Maps L nh n n') (hx:qm σ.ts i = .clo fn [.op n a b] []:=by rfl):y7 L nh σ ((i,.clo fn [.op n' a b] []) :: l):=Qp hx (qeB (qe (jB hm) jg) jg) hl
theorem qab {L:List (Nat × Nat)} {nh:Nat} {σ:St} {i n n' a b:Nat} {fn:Fn} {l:List (Nat × AV)} (hl:y7 L nh σ l) (hm:Maps L nh n n') (hx:qm σ.ts i = .clo fn [] [.op n a b]:=by rfl):y7 L nh σ ((i,.clo fn [] [.op n' a b]) :: l):=Qp hx (qeB jg (qe (jB hm) jg)) hl
theorem qb1 {P:Program} {f:FuncId} {ys:List AV} {n:Int} {y:AV} (hp:AV.pure.pureL ys = true) (hy:y = .v .nilIface ∨ y = .errv)
  (h : ∀ (F:Still) w vs,(∀ b o,F b = some o → w.heap[b]? = some o) → (∀ b p,vY b = some p → ∃ cs e fr,p cs ∧ F b = some (.cells cs e fr)) → AllM F noPlaces vs ys → Calls P f vs.toArray w fun e w'=>(∃ u,e = .returned (.tuple #[.int .i64 n,u]) ∧ M F noPlaces u y) ∧ Below w.heap.size w w'):jN P f ys (.tup [.v (.int .i64 n),y]):=by
 intro B vs w hl hN ⟨g1,g2,F,ρ,hh,g4⟩
 have hm:AllM F noPlaces vs ys:=by
  refine ⟨hl,fun i v y hv hy=>?_⟩;have hi:i < vs.length:=(List.getElem?_eq_some_iff.1 hv).1;have:=g4 i;simp only [Array.getD_eq_getD_getElem?,List.getElem?_toArray,hv,Option.getD_some,List.getD_eq_getElem?_getD,hy] at this;exact this.moved _ (vi hp hy)
 refine (h F w vs hh.agree (fun b p hb=>(B.tab b p hb).imp fun cs h=>h.imp fun e h=>h.imp fun fr h=>⟨h.1,hh.grow b _ h.2⟩) hm).mono fun e w' ⟨⟨u,he,hu⟩,hb⟩=>⟨_,he,g1,rfl,F,ρ,?_,fun i=>?_⟩
 ·refine { kept:=⟨hb.os.trans hh.kept.os,hb.tape.trans hh.kept.tape,hb.output.trans hh.kept.output,Nat.le_trans hh.kept.size hb.size,fun b hlt ho=>?_⟩,agree:=fun b o hF=>?_,grow:=hh.grow,fresh:=hh.fresh,names:=hh.names,dom:=fun _ _=>trivial,own:=fun n=>by simp [OwnAt],new:=fun n b c hn=>by simp [HB.isOwn] at hn,sep:=fun n m b c c' _ hn=>by simp [HB.isOwn] at hn }
  ·rw [hb.block b (Nat.lt_of_lt_of_le hlt hh.kept.size)];exact hh.kept.block b hlt ho
  ·have h0:=hh.agree b o hF;rw [hb.block b (Array.getElem?_eq_some_iff.1 h0).1];exact h0
 ·by_cases hi:i = 0
  ·subst hi;refine .tup _ [.int .i64 n,u] _ rfl fun i v y' hv hy'=>?_
   match i with
   | 0=>simp at hv hy';subst hv;subst hy';exact .v _ _ rfl
   | 1=>simp at hv hy';subst hv;subst hy';exact hu.mono (Still.le_refl F) (wd ρ)
   | i + 2=>simp at hv
  ·unfold one;rw [if_neg hi];exact .junk _ _
theorem qgv {C:Cx} {ts:List (Nat × AV)} {hs:List (Nat × HB)} {nx:Nat} (i n:Nat) {len:Nat} {rows:List (List AV)} (hi:qm ts i = .os n 0 len) (hn:qh hs n = .fz rows) (hl:len = rows.length):Red C ⟨ts,hs,nx⟩ ⟨(i,.sl false rows) :: ts,hs,nx⟩:=by
 subst hl;intro B a w hB ⟨g1,g2,F,ρ,hp,g4⟩;refine ⟨g1,g2,F,ρ, { kept:=hp.kept,agree:=hp.agree,grow:=hp.grow,fresh:=hp.fresh,names:=hp.names,dom:=hp.dom,own:=hp.own,new:=hp.new,sep:=hp.sep },fun m=>?_⟩;show M F ρ _ (qm ((i,_) :: ts) m);rw [Qi];by_cases him:i = m
 ·subst him;rw [if_pos rfl];have h1:=g4 i;have h1:M F ρ _ (qm ts i):=h1;rw [hi] at h1;have h2:=hp.own n;have h2:OwnAt F ρ w n (qh hs n):=h2;rw [hn] at h2
  by_cases hne:rows = []
  ·subst hne
   rcases h1.os_inv with ⟨_,_,_,ad,hv⟩|⟨b,k',cap,ad,hρ,hv,hcap,ha⟩
   ·rw [hv];exact .sl0 _ _ _ _ (fun h=>by cases h) (fun _=>rfl)
   ·rw [hv];exact .sl0 _ _ _ _ (fun h=>by cases h) (fun h=>by cases h)
  ·have hpos:0 < rows.length:=List.length_pos_iff.2 hne
   rcases h2 with ⟨_,h3⟩|⟨b',k,cap',c,e,fr,h3,hb,hsz,hle,hR⟩
   ·exact absurd h3 hne
   ·rcases h1.os_inv with ⟨_,_,h0,ad,hv⟩|⟨b,k',cap,ad,hρ,hv,hcap,ha⟩
    ·omega
    ·rw [hρ] at h3;simp only [Option.some.injEq,Prod.mk.injEq] at h3;obtain ⟨rfl,rfl,rfl⟩:=h3;have had:=ha (by omega);rw [Nat.zero_mul] at had;subst had;rw [hv];exact .sl ρ b 0 _ c e fr false k' rows hb (by omega) (fun h=>by cases h) (by rw [Nat.zero_add];exact hsz) hR.1 (fun i j row x v a1 a2 a3=>hR.2 i j row x v a1 a2 (by rw [Nat.zero_add] at a3;exact a3))
 ·rw [if_neg him];exact g4 m
theorem qo {G G' : Prop} (k:G') (h:Hold G' → G:=by intro key;(first|(apply qa;first|(apply KQ;(conv=>lhs;whnf);exact nle rfl)|(apply Y9;(conv=>lhs;whnf);exact nle rfl)|(apply ka;rfl;(conv=>lhs;whnf);exact nle rfl)|(apply za;rfl;(conv=>lhs;whnf);exact nle rfl)|(apply KO;rfl;rfl;rfl;exact nle rfl)|(apply vL;rfl;rfl;rfl;rfl;exact nofun;exact nle rfl)|(apply zj;rfl;rfl;rfl;rfl;exact nofun;exact nle rfl)|(apply qdJ;rfl;rfl;rfl;(first|rfl|assumption|(apply qd;assumption)|(apply qd;apply qd;assumption));(conv=>lhs;whnf);exact nle rfl)|(apply zl;rfl;rfl;rfl;(first|rfl|assumption|(apply qd;assumption)|(apply qd;apply qd;assumption));rfl;rfl;exact nle rfl)|(apply z1;rfl;rfl;(first|rfl|assumption|(apply qd;assumption)|(apply qd;apply qd;assumption));rfl;rfl;exact nle rfl)|(apply z6;rfl;rfl;rfl;rfl;rfl;rfl;exact nle rfl)|(apply qZ;rfl;rfl;rfl;(first|rfl|assumption|(apply qd;assumption)|(apply qd;apply qd;assumption));(conv=>lhs;whnf);exact nle rfl)|(apply Qz;rfl;rfl;(first|rfl|assumption|(apply qd;assumption)|(apply qd;apply qd;assumption));(conv=>lhs;whnf);exact nle rfl)|(apply KT;rfl;rfl;rfl;exact nle rfl)|(apply Xa;rfl;rfl;rfl;exact nle rfl)|(apply JX;rfl;rfl;rfl;exact nle rfl)|(apply JW;rfl;rfl;rfl;exact nle rfl)|(apply zk;rfl;rfl;rfl;rfl;rfl;(first|rfl|assumption|(apply qd;assumption)|(apply qd;apply qd;assumption));rfl;exact nle rfl)|(apply wW;rfl;rfl;rfl;rfl;(first|rfl|assumption|(apply qd;assumption)|(apply qd;apply qd;assumption));exact nle rfl)|(apply KU;rfl;rfl;omega;exact nle rfl)|(apply KR;rfl;rfl;omega;exact nle rfl)|(apply Zz;rfl;rfl;omega;omega;exact nle rfl)|(apply WF;rfl;rfl;omega;omega;exact nle rfl)|(apply qci;rfl;exact nle rfl)|(apply JV;rfl;(conv=>lhs;whnf);exact nle rfl)|(apply VA;rfl;rfl;rfl;rfl;(conv=>lhs;whnf);exact nle rfl)|(apply Q3 (b':=true);rfl;assumption;(conv=>lhs;whnf);exact nle rfl)|(apply Q3 (b':=false);rfl;assumption;(conv=>lhs;whnf);exact nle rfl)|(apply KN;exact nle rfl)|(apply z8;rfl;exact nle rfl)|(apply z7;rfl;exact nle rfl)|(apply xH;rfl;rfl;rfl;(conv=>lhs;whnf);exact nle rfl)|(apply QA;rfl;rfl;rfl;rfl;(conv=>lhs;whnf);exact nle rfl)|(apply KS;rfl;rfl;(first|omega|(simp<;>fail)|(simp only [List.length_cons,List.length_nil,List.length_map];omega)|(simp;omega));exact nle rfl))|(apply j5;first|(apply Vw;rfl;exact nle rfl)|(apply qcf;rfl;exact nle rfl))|(apply qP;apply Jl;rfl;rfl;rfl;(first|rfl|assumption|(apply qd;assumption)|(apply qd;apply qd;assumption));rfl;rfl;exact nle rfl)|(apply qP;apply qck;rfl;rfl;rfl;(first|rfl|assumption|(apply qd;assumption)|(apply qd;apply qd;assumption));rfl;rfl;exact nle rfl)|apply qF|(apply qL;exact nle rfl;refine ⟨?_,?_⟩;first|exact fun h=>absurd h Bool.false_ne_true|(intro _;kernel_rfl))|(apply V4;rfl;rfl;exact nle rfl)|(apply V3;rfl;rfl;exact nle rfl)|(apply Xn;rfl;rfl;exact nle rfl)|(apply Xm;rfl;rfl;exact nle rfl)|(apply wZ;rfl;rfl;exact nle rfl)|(apply K0;rfl;rfl;assumption;exact nle rfl)|(apply V2;rfl;rfl;assumption;exact nle rfl)|(apply V1;rfl;rfl;assumption;exact nle rfl)|apply jW|refine qO ?_|(apply JO;rfl)|(apply JN;rfl)|(apply XJ;rfl;assumption)|(apply XI;rfl;assumption)|apply Zv|apply Wq|apply Wp|apply qb5);exact key.out):G:=h ⟨k⟩
section ops
variable {C:Cx} {N d:Nat} {ty:TypeId} {pos:String} {af:Array Edge} {gd:Option (Nat × Bool)} {t:Nat → AV} {h:Nat → HB}
theorem qnc {row:List AV} {j:Nat} {X:AV} (hj:j < row.length):kL row j [X] = row.set j X:=by
 rw [List.set_eq_take_append_cons_drop,if_pos hj];unfold kL;simp
theorem zB (T:TypeId) (p x:Operand) (n j:Nat) (ex:Bool) (k:Nat) (r:TRec) (row row' : List AV) (X:AV) (hp:evA t p = .op n 0 j) (hn:h n = .own ex k [row]) (hT:qD C.tab T = some r) (hx:evA t x = X)
  (hc:cellsOf X = [X]) (hl:jj X = true) (hs:r.size = 1) (hj:j < row.length) (he:row.set j X = row') :
  qz C.P N ⟨none,.store T p x,ty,pos,af,gd⟩ t h ⟨qW p ++ qW x,[n],none,.junk,[(n,.own ex k [row'])],[]⟩:=by
 have h1:=Jl (C:=C) (N:=N) (ty:=ty) (pos:=pos) (af:=af) (gd:=gd) T p x n 0 j ex k [row] r row hp hn hT rfl (by rw [hx,hc];simp [hl]) (by rw [hx,hc,hs];rfl) (by rw [hx,hc];exact hj);rw [hx,hc,qnc hj,he] at h1;exact h1
end ops
end Go.Ab
