import Derived.Test.YtamejbkifpjhiaaGreatDoorLz4
import Derived.Laws.Append
set_option linter.unusedSimpArgs false
set_option linter.unusedVariables false
namespace Go.Ab
open Go.RowKit
def X5 (F:Still) (ρ:Places) (c:Array Value) (xs:List AV):Prop:=c.size = xs.length ∧ ∀ (i:Nat) v x,c[i]? = some v → xs[i]? = some x → M F ρ v x
theorem Xc (off:Nat) : ∀ (l:List Value) (s:Nat) (c:Array Value),((l.zipIdx s).foldl (fun cs (x:Value × Nat)=>cs.setIfInBounds (off + x.2) x.1) c).size = c.size ∧
  ∀ p,p < c.size → ((l.zipIdx s).foldl (fun cs (x:Value × Nat)=>cs.setIfInBounds (off + x.2) x.1) c)[p]? = if off + s ≤ p ∧ p < off + s + l.length then l[p - (off + s)]? else c[p]?
 | [],s,c=>⟨rfl,fun p _=>by simp;omega⟩
 | v :: l,s,c=>by
   simp only [List.zipIdx_cons,List.foldl_cons]
   obtain ⟨h1,h2⟩:=Xc off l (s + 1) (c.setIfInBounds (off + s) v)
   refine ⟨by rw [h1];simp,fun p hp=>?_⟩
   rw [h2 p (by simpa using hp)]
   by_cases hc:off + (s + 1) ≤ p ∧ p < off + (s + 1) + l.length
   ·rw [if_pos hc,if_pos (by simp;omega),show p - (off + s) = p - (off + (s + 1)) + 1 from by omega];simp
   ·rw [if_neg hc]
    by_cases he:off + s = p
    ·subst he
     rw [if_pos (by simp)]
     simp [hp]
    ·rw [if_neg (by simp;omega),Array.getElem?_setIfInBounds_ne he]
def Wu (place:Nat → Option (Nat × Nat)):List AV → List (Nat × AV) → Option (List AV)
 | cells,[]=>some cells
 | cells,(i,x) :: l =>
   match place i with
   | none=>none
   | some (off,size)=>if (cellsOf x).length = size ∧ off + size ≤ cells.length ∧ (cellsOf x).all yo = true then Wu place (J7 cells off (cellsOf x)) l else none
theorem VF {F:Still} {ρ:Places} {place:Nat → Option (Nat × Nat)} : ∀ (ps:List (Nat × Value)) (qs:List (Nat × AV)) (c:Array Value) (xs ys:List AV),X5 F ρ c xs → ps.length = qs.length →
  (∀ (i:Nat) p q,ps[i]? = some p → qs[i]? = some q → p.1 = q.1 ∧ M F ρ p.2 q.2) → Wu place xs qs = some ys → ∃ c',Instr.fill place c ps = some c' ∧ X5 F ρ c' ys
 | [],[],c,xs,ys,hc,_,_,h=>by simp [Wu] at h;subst h;exact ⟨c,rfl,hc⟩
 | (i,v) :: ps,(i',x) :: qs,c,xs,ys,hc,hl,hm,h=>by
   obtain ⟨e,hv⟩:=hm 0 (i,v) (i',x) rfl rfl
   have e:i = i':=e
   have hv:M F ρ v x:=hv
   subst e
   simp only [Wu] at h
   cases hp:place i with
   | none=>rw [hp] at h;cases h
   | some os =>
     obtain ⟨off,size⟩:=os
     rw [hp] at h
     simp only at h
     split at h
     ·rename_i hcond
      obtain ⟨h1,h2,h3⟩:=hcond
      obtain ⟨c1,c2,c3⟩:=M.cells hv h3
      have hsz:v.cells.size = size:=by rw [← Array.length_toList,c1,h1]
      have hsz2:v.cells.toList.length = size:=by rw [c1,h1]
      have hsz3:(cellsOf x).length = size:=h1
      obtain ⟨f1,f2⟩:=Xc off v.cells.toList 0 c
      have hfold:v.cells.zipIdx.foldl (fun cs (x:Value × Nat)=>cs.setIfInBounds (off + x.2) x.1) c = (v.cells.toList.zipIdx 0).foldl (fun cs (x:Value × Nat)=>cs.setIfInBounds (off + x.2) x.1) c:=by
       rw [← Array.foldl_toList,Array.toList_zipIdx]
      have hnew:X5 F ρ ((v.cells.toList.zipIdx 0).foldl (fun cs (x:Value × Nat)=>cs.setIfInBounds (off + x.2) x.1) c) (J7 xs off (cellsOf x)):=by
       refine ⟨by rw [f1,hc.1,wQ (by rw [h1];exact h2)],fun p u y hu hy=>?_⟩
       have hp' : p < c.size:=by have:=(Array.getElem?_eq_some_iff.1 hu).1;omega
       rw [f2 p hp'] at hu
       simp only [Nat.add_zero] at hu
       unfold J7 at hy
       rw [List.getElem?_append,List.getElem?_append] at hy
       simp only [List.length_append,List.length_take] at hy
       rw [Nat.min_eq_left (by omega)] at hy
       by_cases a1:p < off
       ·rw [if_neg (by omega)] at hu
        rw [if_pos (by omega),if_pos a1,List.getElem?_take,if_pos a1] at hy
        exact hc.2 p u y hu hy
       ·by_cases a2:p < off + (cellsOf x).length
        ·rw [if_pos (by omega)] at hu
         rw [if_pos a2,if_neg a1] at hy
         exact c3 _ u y hu hy
        ·rw [if_neg (by omega)] at hu
         rw [if_neg a2,List.getElem?_drop,show off + (cellsOf x).length + (p - (off + (cellsOf x).length)) = p from by omega] at hy
         exact hc.2 p u y hu hy
      obtain ⟨c',g1,g2⟩:=VF ps qs _ _ ys hnew (by simpa using hl) (fun j p q hj hq=>hm (j + 1) p q (by simpa using hj) (by simpa using hq)) h
      refine ⟨c',?_,g2⟩
      simp only [Instr.fill,hp]
      rw [if_neg (by rw [hsz];simp;have:=hc.1;omega)]
      rw [← g1, ← hfold]
     ·cases h
 | [],_ :: _,_,_,_,_,hl,_,_=>by simp at hl
 | _ :: _,[],_,_,_,_,hl,_,_=>by simp at hl
def Jg (tab:List (Nat × TRec)):List (Nat × Nat) → Option (List (Nat × Nat))
 | []=>some []
 | (off,ty) :: l =>
   match qW tab ty,Jg tab l with
   | some r,some ps=>some ((off,r.size) :: ps)
   | _,_=>none
section ops
variable {C:Cx} {N d:Nat} {ty:TypeId} {pos:String} {af:Array Edge} {gd:Option (Nat × Bool)} {t:Nat → AV} {h:Nat → HB}
theorem Za (w:World) : ∀ (fs:List Field) (ps:List (Nat × Nat)),Jg C.tab (fs.map fun f=>(f.offset,f.type)) = some ps →
  (fs.mapM fun (f:Field)=>(do pure (f.offset, ← sizeOf f.type):Sem (Nat × Nat))).run C.P w = .ok ps w
 | [],ps,h=>by simp [Jg] at h;subst h;simp
 | f :: fs,ps,h=>by
   simp only [List.map_cons,Jg] at h
   split at h
   ·rename_i r ps' h1 h2
    simp only [Option.some.injEq] at h
    subst h
    have ih:=Za w fs ps' h2
    rw [List.mapM_cons]
    simp only [Sem.run_bind,xE (C.ok _ r h1),Result.andThen_ok,Sem.run_pure,ih]
   ·cases h
theorem Yr (T:TypeId) (parts:List (Nat × Operand)) (r:TRec) (fs ps:List (Nat × Nat)) (cs:List AV) (hT:qW C.tab T = some r) (hk:r.kind = .struct fs) (hps:Jg C.tab fs = some ps)
  (hf:Wu (ps[·]?) (r.zero.map ofV) (parts.map fun p=>(p.1,evA t p.2)) = some cs) (hN:d < N) :
  ja C.P N ⟨some d,.build T parts.toArray,ty,pos,af,gd⟩ t h ⟨parts.flatMap fun p=>yr p.2,[],some d,.agg cs,[],[]⟩ :=
 jV _ _ rfl hN fun F ρ a w _ hs _=>by
  obtain ⟨dd,inf,z0,hu,_,_,hkind,_⟩:=yG (C.ok T r hT)
  obtain ⟨z,hz,hzc⟩:=QM (C.ok T r hT) w
  rw [hk] at hkind
  cases dd with
  | struct fds =>
    simp only [vE,TK.struct.injEq] at hkind
    have hpl:=Za (C:=C) w fds.toList ps (by rw [← hkind];exact hps)
    have hc0:X5 F ρ z.cells (r.zero.map ofV):=by
     rw [hzc]
     refine ⟨by simp,fun i v x hv hx=>?_⟩
     rw [List.getElem?_map] at hx
     simp only [List.getElem?_toArray] at hv
     rw [hv] at hx
     simp only [Option.map_some,Option.some.injEq] at hx
     exact hx ▸ JC F ρ v
    obtain ⟨c',f1,f2⟩:=VF (place:=(ps[·]?)) (parts.map fun p=>(p.1,a.eval p.2)) (parts.map fun p=>(p.1,evA t p.2)) z.cells _ cs hc0 (by simp) (fun i p q hp hq=>by
     rw [List.getElem?_map] at hp hq
     cases hpi:parts[i]? with
     | none=>rw [hpi] at hp;cases hp
     | some o =>
       rw [hpi] at hp hq
       simp only [Option.map_some,Option.some.injEq] at hp hq
       subst hp;subst hq
       exact ⟨rfl,qE hs fun j hj=>List.mem_flatMap.2 ⟨o,List.mem_of_getElem? hpi,hj⟩⟩) hf
    refine ⟨.agg c',?_,?_⟩
    ·have hpa:(fds.mapM fun (f:Field)=>(do pure (f.offset, ← sizeOf f.type):Sem (Nat × Nat))).run C.P w = .ok ps.toArray w:=by
      rw [Array.mapM_eq_mapM_toList,Sem.run_map,hpl];rfl
     simp only [execOp,Instr.build,Sem.run_bind,hz,Result.andThen_ok,run_underlying hu,hpa]
     have hpe:(fun (i:Nat)=>ps.toArray[i]?) = (fun (i:Nat)=>ps[i]?):=by funext i;simp
     have hpt:(parts.toArray.map fun (x:Nat × Operand)=>(x.1,a.eval x.2)).toList = parts.map fun p=>(p.1,a.eval p.2):=by simp
     rw [hpe,hpt,f1]
     rfl
    ·have:=M.agg (F:=F) ρ c'.toList cs (by simpa using f2.1) (fun i v x hv hx=>f2.2 i v x (by simpa using hv) hx)
     simpa using this
  | _=>simp [vE] at hkind
theorem ZF {F:Still} {ρ:Places} {k:Nat} : ∀ (ps:List (Nat × Value)) (qs:List AV) (n0:Nat) (c:Array Value),ps.length = qs.length → (∀ (i:Nat) p,ps[i]? = some p → p.1 = n0 + i) →
  (∀ (i:Nat) p q,ps[i]? = some p → qs[i]? = some q → M F ρ p.2 q ∧ (cellsOf q).length = k ∧ (cellsOf q).all yo = true) → (n0 + qs.length) * k ≤ c.size →
  ∃ c',Instr.fill (fun i=>some (i * k,k)) c ps = some c' ∧ c'.size = c.size ∧ (∀ p,p < n0 * k → c'[p]? = c[p]?) ∧
    ∀ (i j:Nat) q x v,qs[i]? = some q → (cellsOf q)[j]? = some x → c'[(n0 + i) * k + j]? = some v → M F ρ v x
 | [],[],n0,c,_,_,_,_=>⟨c,rfl,rfl,fun _ _=>rfl,fun i j q x v h=>by cases i<;>cases h⟩
 | (i0,v) :: ps,q :: qs,n0,c,hl,hn,hm,hs=>by
   have e0:i0 = n0:=by have:=hn 0 (i0,v) rfl;simpa using this
   subst e0
   obtain ⟨m1,m2,m3⟩:=hm 0 (i0,v) q rfl rfl
   have m1:M F ρ v q:=m1
   obtain ⟨c1,c2,c3⟩:=M.cells m1 m3
   have hsz:v.cells.toList.length = k:=by rw [c1,m2]
   have hsz2:v.cells.size = k:=by rw [← Array.length_toList];exact hsz
   have hrow:i0 * k + k ≤ c.size:=by
    have:(i0 + 1) * k ≤ (i0 + (q :: qs).length) * k:=Nat.mul_le_mul_right _ (by simp)
    rw [Nat.add_mul,Nat.one_mul] at this;omega
   obtain ⟨f1,f2⟩:=Xc (i0 * k) v.cells.toList 0 c
   have hfold:v.cells.zipIdx.foldl (fun cs (x:Value × Nat)=>cs.setIfInBounds (i0 * k + x.2) x.1) c = (v.cells.toList.zipIdx 0).foldl (fun cs (x:Value × Nat)=>cs.setIfInBounds (i0 * k + x.2) x.1) c:=by
    rw [← Array.foldl_toList,Array.toList_zipIdx]
   obtain ⟨c',g1,g2,g3,g4⟩:=ZF ps qs (i0 + 1) _ (by simpa using hl) (fun i p hp=>by have:=hn (i + 1) p (by simpa using hp);omega) (fun i p q' hp hq=>hm (i + 1) p q' (by simpa using hp) (by simpa using hq))
    (show (i0 + 1 + qs.length) * k ≤ ((v.cells.toList.zipIdx 0).foldl (fun cs (x:Value × Nat)=>cs.setIfInBounds (i0 * k + x.2) x.1) c).size from by rw [f1];rw [show i0 + 1 + qs.length = i0 + (q :: qs).length from by simp;omega];exact hs)
   refine ⟨c',?_,by rw [g2,f1],fun p hp=>?_,fun i j q' x u hq hx hu=>?_⟩
   ·simp only [Instr.fill]
    rw [if_neg (by rw [hsz2];simp;omega), ← g1, ← hfold]
   ·rw [g3 p (by rw [Nat.add_mul];omega),f2 p (by omega)]
    rw [if_neg (by omega)]
   ·cases i with
    | zero =>
      simp only [List.getElem?_cons_zero,Option.some.injEq] at hq
      subst hq
      have hj:j < k:=by rw [← m2];exact (List.getElem?_eq_some_iff.1 hx).1
      rw [Nat.add_zero,g3 _ (by rw [Nat.add_mul];omega),f2 _ (by omega),if_pos (by omega)] at hu
      rw [show i0 * k + j - (i0 * k + 0) = j from by omega] at hu
      exact c3 j u x hu hx
    | succ i =>
      exact g4 i j q' x u (by simpa using hq) hx (by rw [show i0 + 1 + i = i0 + (i + 1) from by omega];exact hu)
 | [],_ :: _,_,_,hl,_,_,_=>by simp at hl
 | _ :: _,[],_,_,hl,_,_,_=>by simp at hl
def JA:Nat → List (Nat × Operand) → Bool
 | _,[]=>true
 | n,p :: l=>p.1 == n && JA (n + 1) l
theorem YF : ∀ (l:List (Nat × Operand)) (n:Nat),JA n l = true → ∀ (i:Nat) p,l[i]? = some p → p.1 = n + i
 | [],n,_,i,p,h=>by cases i<;>cases h
 | q :: l,n,h,i,p,hi=>by
   simp only [JA,Bool.and_eq_true,beq_iff_eq] at h
   cases i with
   | zero=>simp at hi;subst hi;simpa using h.1
   | succ i=>have:=YF l (n + 1) h.2 i p (by simpa using hi);omega
theorem Jn {T e len:Nat} {parts:List (Nat × Operand)} {r re:TRec} {rows:List (List AV)} (hT:qW C.tab T = some r) (hk:r.kind = .slice e) (hE:qW C.tab e = some re)
  (ho:JA 0 parts = true) (hl:parts.length = len) (hrows:rows = parts.map fun p=>cellsOf (evA t p.2)) (hz:rows.all (fun row=>row.length == re.size && row.all yo) = true) (hsm:len * re.size ≤ 16777216)
  {F:Still} {ρ:Places} {a:Act} {w:World} (hs : ∀ j,j ∈ parts.flatMap (fun p=>yr p.2) → M F ρ (a.tmps.getD j undef) (t j)) :
  ∃ c,(Instr.buildSlice T len (parts.toArray.map fun (x:Nat × Operand)=>(x.1,a.eval x.2))).run C.P w = .ok (.slice (some ⟨w.heap.size,0,none⟩) len len) (w.alloc (.cells c e)) ∧ c.size = len * re.size ∧ RowsAt F ρ c re.size rows:=by
 have hu:=yj (C.ok T r hT) hk
 obtain ⟨z,hzr,hzc⟩:=QM (C.ok e re hE) w
 let c0:Array Value:=(Array.range (len * re.size)).map ((if len * re.size = 0 then #[] else z.cells)[· % (if len * re.size = 0 then #[] else z.cells).size]!)
 have hc0:c0.size = len * re.size:=by simp [c0]
 have hall : ∀ (i:Nat) q,(parts.map fun p=>evA t p.2)[i]? = some q → (cellsOf q).length = re.size ∧ (cellsOf q).all yo = true:=by
  intro i q hq
  have:rows[i]? = some (cellsOf q):=by
   rw [List.getElem?_map] at hq
   rw [hrows,List.getElem?_map]
   cases hpi:parts[i]? with
   | none=>rw [hpi] at hq;cases hq
   | some o=>rw [hpi] at hq;simp only [Option.map_some,Option.some.injEq] at hq ⊢;rw [hq]
  have:=List.all_eq_true.1 hz _ (List.mem_of_getElem? this)
  simpa using this
 obtain ⟨c',g1,g2,g3,g4⟩:=ZF (F:=F) (ρ:=ρ) (k:=re.size) (parts.map fun p=>(p.1,a.eval p.2)) (parts.map fun p=>evA t p.2) 0 c0 (by simp) (fun i p hp=>by
   rw [List.getElem?_map] at hp
   cases hpi:parts[i]? with
   | none=>rw [hpi] at hp;cases hp
   | some o=>rw [hpi] at hp;simp only [Option.map_some,Option.some.injEq] at hp;subst hp;exact YF _ _ ho i o hpi) (fun i p q hp hq=>by
   refine ⟨?_,hall i q hq⟩
   rw [List.getElem?_map] at hp hq
   cases hpi:parts[i]? with
   | none=>rw [hpi] at hp;cases hp
   | some o =>
     rw [hpi] at hp hq
     simp only [Option.map_some,Option.some.injEq] at hp hq
     subst hp;subst hq
     exact qE hs fun j hj=>List.mem_flatMap.2 ⟨o,List.mem_of_getElem? hpi,hj⟩) (by rw [hc0];simp [hl])
 refine ⟨c',?_,by rw [g2,hc0],?_,?_⟩
 ·unfold Instr.buildSlice
  have hpt:(parts.toArray.map fun (x:Nat × Operand)=>(x.1,a.eval x.2)).toList = parts.map fun p=>(p.1,a.eval p.2):=by simp
  simp only [Sem.run_bind,run_underlying hu,Result.andThen_ok,xE (C.ok e re hE)]
  rw [if_neg (by omega)]
  by_cases h0:len * re.size = 0
  ·have e0:(if len * re.size = 0 then #[] else z.cells) = #[]:=if_pos h0
   have g:=g1
   simp only [c0,e0] at g
   rw [if_pos h0]
   simp only [Sem.run_bind,Sem.run_pure,Result.andThen_ok,hpt,g]
   rfl
  ·have e0:(if len * re.size = 0 then #[] else z.cells) = z.cells:=if_neg h0
   have g:=g1
   simp only [c0,e0] at g
   rw [if_neg h0]
   simp only [Sem.run_bind,Sem.run_pure,Result.andThen_ok,hzr,hpt,g]
   rfl
 ·intro row hrow
  have:=List.all_eq_true.1 hz row hrow
  simp only [Bool.and_eq_true,beq_iff_eq] at this
  exact this.1
 ·intro i j row x v hi hj hv
  rw [hrows] at hi
  rw [List.getElem?_map] at hi
  cases hpi:parts[i]? with
  | none=>rw [hpi] at hi;cases hi
  | some o =>
    rw [hpi] at hi
    simp only [Option.map_some,Option.some.injEq] at hi
    subst hi
    exact g4 i j (evA t o.2) x v (by rw [List.getElem?_map,hpi];rfl) hj (by rw [Nat.zero_add];exact hv)
theorem Zp (T e len:Nat) (parts:List (Nat × Operand)) (m:Nat) (r re:TRec) (rows:List (List AV)) (hT:qW C.tab T = some r) (hk:r.kind = .slice e) (hE:qW C.tab e = some re)
  (ho:JA 0 parts = true) (hl:parts.length = len) (hrows:(parts.map fun p=>cellsOf (evA t p.2)) = rows) (hz:rows.all (fun row=>row.length == re.size && row.all yo) = true) (hsm:len * re.size ≤ 16777216) (hN:d < N) :
  ja C.P N ⟨some d,.buildSlice T len parts.toArray,ty,pos,af,gd⟩ t h ⟨parts.flatMap fun p=>yr p.2,[],some d,.os m 0 len,[(m,.own true re.size rows)],[m]⟩ :=
 qaK _ _ m true _ len _ rfl hN (by rw [← hrows];simp;omega) (by rw [← hrows];simp;omega) fun F ρ a w hm=>by
  obtain ⟨c,h1,h2,h3⟩:=Jn hT hk hE ho hl hrows.symm hz hsm (w:=w) hm
  refine ⟨.slice (some ⟨w.heap.size,0,none⟩) len len,c,e,?_,h2,h3,fun ρ' hρ' _=>?_⟩
  ·simp only [execOp,Sem.run_bind,h1,Result.andThen_ok,Sem.run_pure]
  ·have:=M.os (F:=F) ρ' m w.heap.size re.size len 0 len ⟨w.heap.size,0,none⟩ hρ' (by omega) (fun _=>by simp)
   simpa using this
theorem qdW {P:Program} {o:Oper} {x:AV} (rt:List Nat) (hd:o.dst = some d) (hN:d < N)
  (hrun : ∀ F ρ (a:Act) (w:World),(∀ b o',F b = some o' → w.heap[b]? = some o') → (∀ j,j ∈ rt → M F ρ (a.tmps.getD j undef) (t j)) → ∃ u ob w1,(execOp a.eval o).run P w = .ok (.value u) (w1.alloc ob) ∧ (w1 = w ∨ w1 = w.drew) ∧
   M (fun b=>if b = w.heap.size then some ob else F b) ρ u x) :
  ja P N o t h ⟨rt,[],some d,x,[],[]⟩:=by
 intro B A t' h' a w Q K hBN g hrt hrh _ hK
 obtain ⟨g1,g2,F,ρ,hp,g4⟩:=g
 obtain ⟨u,ob,w1,hr,hw1,hM⟩:=hrun F ρ a w hp.agree (fun j hj=>(hrt j hj) ▸ g4 j)
 have hFn:F w.heap.size = none:=by
  cases hF:F w.heap.size with
  | none=>rfl
  | some o=>have:=(Array.getElem?_eq_some_iff.1 (hp.agree _ o hF)).1;omega
 have hle:F.le (fun b=>if b = w.heap.size then some ob else F b):=by
  intro b o hb
  by_cases hbn:b = w.heap.size
  ·rw [hbn,hFn] at hb;cases hb
  ·simpa [hbn] using hb
 have hheap:w1.heap = w.heap:=by rcases hw1 with rfl|rfl<;>rfl
 have hsz1:w1.heap.size = w.heap.size:=by rw [hheap]
 have hkept:B.kept (w1.alloc ob):=by
  rcases hw1 with rfl|rfl
  ·exact hp.kept.alloc ob
  ·exact hp.kept.drew.alloc ob
 have hold : ∀ b,b < w.heap.size → (w1.alloc ob).heap[b]? = w.heap[b]?:=fun b hb=>by
  rw [Below.heap_alloc _ _ _ (by rw [hsz1];exact hb),hheap]
 have hblk : ∀ n ex k rows,h' n = .own ex k rows → ∀ b c,ρ n = some (some (b,c)) → b < w.heap.size:=by
  intro n ex k rows hh b c hρ
  have h1:=hp.own n
  rw [hh] at h1
  rcases h1 with ⟨h2,_⟩|⟨b',cap,c',e,h2,h3,_⟩
  ·rw [hρ] at h2;cases h2
  ·rw [hρ] at h2;simp only [Option.some.injEq,Prod.mk.injEq] at h2
   rw [h2.1];exact (Array.getElem?_eq_some_iff.1 h3).1
 unfold Oper.wp
 rw [hr,Oper.upon_value]
 refine hK _ _ ⟨by cases ho:o.dst<;>simpa [Act.put] using g1,by rw [zo];exact g2,(fun b=>if b = w.heap.size then some ob else F b),ρ,?_,fun i=>?_⟩
 ·refine { kept:=hkept,agree:=fun b o hb=>?_,grow:=fun b o hb=>hle b o (hp.grow b o hb),fresh:=fun b hb=>?_,names:=hp.names,dom:=fun n hn => .inl (hp.dom n hn),own:=fun n=>?_,new:=fun n b c ho hn=>?_,sep:=hp.sep }
  ·by_cases hbn:b = w.heap.size
   ·subst hbn
    simp only [if_true,Option.some.injEq] at hb
    rw [← hb, ← hsz1];exact heap_alloc_new w1 ob
   ·simp only [hbn,if_false] at hb
    rw [hold b (Array.getElem?_eq_some_iff.1 (hp.agree b o hb)).1];exact hp.agree b o hb
  ·by_cases hbn:b = w.heap.size
   ·exact .inr (.inl (by rw [hbn];exact hp.kept.size))
   ·simp only [hbn,if_false] at hb;exact hp.fresh b hb
  ·have h1:=hp.own n
   show OwnAt _ ρ _ n (h' n)
   cases hh:h' n with
   | dead=>trivial
   | fz rows =>
     rw [hh] at h1
     rcases h1 with h1|⟨b,k,cap,c,e,fr,h1,h2,h3,h4,h5⟩
     ·exact .inl h1
     ·exact .inr ⟨b,k,cap,c,e,fr,h1,hle _ _ h2,h3,h4,h5.mono hle (Places.le_refl _)⟩
   | mp l =>
     rw [hh] at h1
     obtain ⟨b,es,clock,h1,h2,h3⟩:=h1
     exact ⟨b,es,clock,h1,by rw [hold b (Array.getElem?_eq_some_iff.1 h2).1];exact h2,h3.mono hle (Places.le_refl _)⟩
   | own ex k rows =>
     rw [hh] at h1
     rcases h1 with h1|⟨b,cap,c,e,h1,h2,h3,h4,h5,h6⟩
     ·exact .inl h1
     ·exact .inr ⟨b,cap,c,e,h1,by rw [hold b (Array.getElem?_eq_some_iff.1 h2).1];exact h2,h3,h4,h5,h6.mono hle (Places.le_refl _)⟩
  ·have h2:=hp.new n b c ho hn
   refine ⟨?_,h2.2⟩
   cases hh:h' n with
   | own ex k rows =>
     have:=hblk n ex k rows hh b c hn
     simp only [show ¬ b = w.heap.size from by omega,if_false]
     exact h2.1
   | dead=>have ho:(h' n).isOwn = true:=ho;rw [hh] at ho;cases ho
   | fz _=>have ho:(h' n).isOwn = true:=ho;rw [hh] at ho;cases ho
   | mp l =>
     have:=hp.blk ho hn
     simp only [show ¬ b = w.heap.size from by omega,if_false]
     exact h2.1
 ·rw [hd,kg _ _ _ _ (by omega)]
  unfold Eff.t Eff.wT
  by_cases hi:d = i
  ·subst hi;simpa using hM
  ·simpa [hi] using (g4 i).mono hle (Places.le_refl ρ)
theorem RowsAt.pure {F:Still} {ρ:Places} {c:Array Value} {k:Nat} {rows:List (List AV)} (h:RowsAt F ρ c k rows) (hp : ∀ row,row ∈ rows → AV.pure.pureL row = true):RowsAt F noPlaces c k rows :=
 ⟨h.1,fun i j row x v h1 h2 h3=>(h.2 i j row x v h1 h2 h3).moved _ (zT (hp row (List.mem_of_getElem? h1)) h2)⟩
theorem kp (T e len:Nat) (parts:List (Nat × Operand)) (r re:TRec) (rows:List (List AV)) (hT:qW C.tab T = some r) (hk:r.kind = .slice e) (hE:qW C.tab e = some re)
  (ho:JA 0 parts = true) (hl:parts.length = len) (hrows:(parts.map fun p=>cellsOf (evA t p.2)) = rows) (hz:rows.all (fun row=>row.length == re.size && row.all yo && AV.pure.pureL row) = true) (hsm:len * re.size ≤ 16777216) (hN:d < N) :
  ja C.P N ⟨some d,.buildSlice T len parts.toArray,ty,pos,af,gd⟩ t h ⟨parts.flatMap fun p=>yr p.2,[],some d,.sl true rows,[],[]⟩ :=
 qdW _ rfl hN fun F ρ a w hag hm=>by
  have hz1:rows.all (fun row=>row.length == re.size && row.all yo) = true:=List.all_eq_true.2 fun row hr=>by have:=List.all_eq_true.1 hz row hr;simp only [Bool.and_eq_true] at this ⊢;exact this.1
  have hz2 : ∀ row,row ∈ rows → AV.pure.pureL row = true:=fun row hr=>by have:=List.all_eq_true.1 hz row hr;simp only [Bool.and_eq_true] at this;exact this.2
  obtain ⟨c,h1,h2,h3⟩:=Jn hT hk hE ho hl hrows.symm hz1 hsm (w:=w) hm
  refine ⟨.slice (some ⟨w.heap.size,0,none⟩) len len,.cells c e,w,by simp only [execOp,Sem.run_bind,h1,Result.andThen_ok,Sem.run_pure],.inl rfl,?_⟩
  have hlen:rows.length = len:=by rw [← hrows];simp [hl]
  have hF:F w.heap.size = none:=by
   cases hF:F w.heap.size with
   | none=>rfl
   | some o=>have:=(Array.getElem?_eq_some_iff.1 (hag _ o hF)).1;omega
  have h4:=h3.pure hz2
  have:=M.sl (F:=fun b=>if b = w.heap.size then some (.cells c e) else F b) ρ w.heap.size 0 len c e (0,0) true re.size rows (by simp) (by omega) (fun _=>hlen.symm) (by rw [hlen,h2];omega) h3.1
   (fun i j row x v hi hj hv=>by
    have hmm:=h4.2 i j row x v hi hj (by simpa using hv)
    exact hmm.mono (fun b o hb=>by
     by_cases hbn:b = w.heap.size
     ·rw [hbn,hF] at hb;cases hb
     ·simpa [hbn] using hb) (Places.le_refl _))
  rw [hlen] at this
  exact this
theorem wF (T e:Nat) (x:Operand) (r re:TRec) (y:AV) (hx:evA t x = y) (hT:qW C.tab T = some r) (hk:r.kind = .slice e) (hE:qW C.tab e = some re)
  (hc:(cellsOf y).all yo = true ∧ AV.pure.pureL (cellsOf y) = true) (hs:(cellsOf y).length = re.size) (hsm:1 * re.size ≤ 16777216) (hN:d < N) :
  ja C.P N ⟨some d,.buildSlice T 1 #[(0,x)],ty,pos,af,gd⟩ t h ⟨[(0,x)].flatMap fun p=>yr p.2,[],some d,.sl true [cellsOf y],[],[]⟩ :=
 kp T e 1 [(0,x)] r re [cellsOf y] hT hk hE rfl rfl (by simp [hx]) (by simp [hc.1,hc.2,hs]) hsm hN
theorem J1 (T e:Nat) (x:Operand) (r re:TRec) (row:List AV) (hx:evA t x = .agg row) (hT:qW C.tab T = some r) (hk:r.kind = .slice e) (hE:qW C.tab e = some re)
  (hc:row.all yo = true ∧ AV.pure.pureL row = true) (hs:row.length = re.size) (hsm:1 * re.size ≤ 16777216) (hN:d < N) :
  ja C.P N ⟨some d,.buildSlice T 1 #[(0,x)],ty,pos,af,gd⟩ t h ⟨[(0,x)].flatMap fun p=>yr p.2,[],some d,.sl true [row],[],[]⟩ :=
 wF T e x r re (.agg row) hx hT hk hE hc hs hsm hN
end ops
end Go.Ab
set_option linter.unusedSimpArgs false
set_option linter.unusedVariables false
namespace Go.Ab
open Go.RowKit
section ops
variable {C:Cx} {N d:Nat} {ty:TypeId} {pos:String} {af:Array Edge} {gd:Option (Nat × Bool)} {t:Nat → AV} {h:Nat → HB}
theorem yB {P:Program} {w:World} {v:Value} {k:IntKind} {n y:Nat} {code:BoundsCode} (hv:v = .int k (n:Int)) (hny:n ≤ y):(Instr.sliceBound v y code).run P w = .ok n w:=by
 subst hv
 have:(0 ≤ (n:Int) ∧ (n:Int) ≤ (y:Int)) = True:=by simp;omega
 simp only [Instr.sliceBound,asIntOf,Sem.run_bind,Sem.run_pure,Result.andThen_ok,Sem.run_ite,this,if_true,Int.toNat_natCast]
def BoundIs (t:Nat → AV) (o:Option Operand) (dflt n:Nat):Prop:=match o with|none=>n = dflt|some o => ∃ k,evA t o = .v (.int k (n:Int))
theorem BoundIs.val {F:Still} {ρ:Places} {a:Act} {o:Operand} {dflt n:Nat} (hb:BoundIs t (some o) dflt n) {rt:List Nat} (hs : ∀ j,j ∈ rt → M F ρ (a.tmps.getD j undef) (t j)) (hx : ∀ j,j ∈ yr o → j ∈ rt) : ∃ k,a.eval o = .int k (n:Int):=by
 obtain ⟨k,hk⟩:=hb
 have:=qE (x:=o) hs hx
 rw [hk] at this
 exact ⟨k,this.v_inv.1⟩
theorem xZ (T e:Nat) (x:Operand) (lo hi mx:Option Operand) (ex ex' : Bool) (rows:List (List AV)) (a b m:Nat) (r re:TRec) (hx:evA t x = .sl ex rows) (hT:qW C.tab T = some r) (he:r.kind = .slice e) (hE:qW C.tab e = some re)
  (ha:BoundIs t lo 0 a) (hb:BoundIs t hi rows.length b) (hm:match mx with|none=>True|some o=>(∃ k,evA t o = .v (.int k (m:Int))) ∧ b ≤ m ∧ m ≤ rows.length ∧ hi.isSome = true) (hab:a ≤ b) (hbl:b ≤ rows.length) (hrk : ∀ row,row ∈ rows → row.length = re.size)
  (hex:ex' = true → match mx with|none=>ex = true ∧ b = rows.length|some _=>b = m) (hN:d < N) :
  ja C.P N ⟨some d,.slice T x lo hi mx,ty,pos,af,gd⟩ t h ⟨yr x ++ (lo.toList.flatMap yr ++ (hi.toList.flatMap yr ++ mx.toList.flatMap yr)),[],some d,.sl ex' ((rows.take b).drop a),[],[]⟩ :=
 jV _ _ rfl hN fun F ρ act w hag hs _=>by
  have h1:=qE (x:=x) hs (fun j hj=>List.mem_append_left _ hj)
  rw [hx] at h1
  have hu:=yj (C.ok T r hT) he
  have hLo : ∀ o,lo = some o → ∃ k,act.eval o = .int k (a:Int):=fun o ho=>by subst ho;exact BoundIs.val ha hs (fun j hj=>List.mem_append_right _ (List.mem_append_left _ (by simpa using hj)))
  have hHi : ∀ o,hi = some o → ∃ k,act.eval o = .int k (b:Int):=fun o ho=>by subst ho;exact BoundIs.val hb hs (fun j hj=>List.mem_append_right _ (List.mem_append_right _ (List.mem_append_left _ (by simpa using hj))))
  have hMx : ∀ o,mx = some o → (∃ k,act.eval o = .int k (m:Int)) ∧ b ≤ m ∧ m ≤ rows.length ∧ hi.isSome = true:=fun o ho=>by
   subst ho
   obtain ⟨⟨k,hk⟩,h2⟩:=hm
   refine ⟨?_,h2⟩
   have:=qE (x:=o) hs (fun j hj=>List.mem_append_right _ (List.mem_append_right _ (List.mem_append_right _ (by simpa using hj))))
   rw [hk] at this
   exact ⟨k,this.v_inv.1⟩
  have hv : ∃ (ad:Option Addr) (cap:Nat),act.eval x = .slice ad rows.length cap ∧ rows.length ≤ cap ∧ (ex = true → cap = rows.length) ∧ (ad = none → cap = 0) ∧
    (rows ≠ [] → ∃ bk off c e' fr,ad = some ⟨bk,off,none⟩ ∧ F bk = some (.cells c e' fr) ∧ off + rows.length * re.size ≤ c.size ∧ ∀ (i j:Nat) row x v,rows[i]? = some row → row[j]? = some x → c[off + i * re.size + j]? = some v → M F noPlaces v x):=by
   rcases h1.sl_inv with ⟨h2,ad,cap,hv,h3,h4⟩|⟨bk,off,cap,c,e',fr,k,hF,h2,h3,h4,h5,h6,hv⟩
   ·subst h2
    exact ⟨ad,cap,hv,Nat.zero_le _,h3,h4,fun hne=>absurd rfl hne⟩
   ·refine ⟨_,cap,hv,h2,h3,(fun h=>by cases h),fun hne=>?_⟩
    have hk:k = re.size:=by
     cases rows with
     | nil=>exact absurd rfl hne
     | cons row rows=>rw [← h5 row (List.mem_cons_self ..)];exact hrk row (List.mem_cons_self ..)
    subst hk
    exact ⟨bk,off,c,e',fr,rfl,hF,h4,h6⟩
  obtain ⟨ad,cap,hv,hlc,hexc,hadn,hblk⟩:=hv
  let mm:=match mx with|none=>cap|some _=>m
  have hmm:b ≤ mm:=by
   simp only [mm]
   cases mx with
   | none=>simp only;omega
   | some o=>exact (hMx o rfl).2.1
  have hbounds:(Instr.sliceBounds true rows.length cap (lo.map act.eval) (hi.map act.eval) (mx.map act.eval)).run C.P w = .ok (a,b,mm) w:=by
   unfold Instr.sliceBounds
   cases mx with
   | none =>
     cases hi with
     | none =>
       have hb' : b = rows.length:=hb
       subst hb'
       cases lo with
       | none=>have ha' : a = 0:=ha;subst ha';simp [mm]
       | some o=>obtain ⟨k,hk⟩:=hLo o rfl;simp [mm,yB hk hab]
     | some o' =>
       obtain ⟨k',hk'⟩:=hHi o' rfl
       cases lo with
       | none=>have ha' : a = 0:=ha;subst ha';simp [mm,yB hk' (show b ≤ cap by omega)]
       | some o=>obtain ⟨k,hk⟩:=hLo o rfl;simp [mm,yB hk' (show b ≤ cap by omega),yB hk hab]
   | some om =>
     obtain ⟨⟨km,hkm⟩,h2,h3,h4⟩:=hMx om rfl
     cases hi with
     | none=>cases h4
     | some o' =>
       obtain ⟨k',hk'⟩:=hHi o' rfl
       cases lo with
       | none=>have ha' : a = 0:=ha;subst ha';simp [mm,yB hkm (show m ≤ cap by omega),yB hk' h2]
       | some o=>obtain ⟨k,hk⟩:=hLo o rfl;simp [mm,yB hkm (show m ≤ cap by omega),yB hk' h2,yB hk hab]
  refine ⟨.slice (if mm = a then ad else ad.map (·.add (a * re.size))) (b - a) (mm - a),?_,?_⟩
  ·simp only [execOp,Instr.sliceAt,Sem.run_bind,run_underlying hu,Result.andThen_ok,Instr.slice,hv,hbounds,xE (C.ok e re hE),Sem.run_pure]
  ·have hlen:((rows.take b).drop a).length = b - a:=by simp;omega
   by_cases h0:b - a = 0
   ·have hnil:(rows.take b).drop a = []:=List.eq_nil_of_length_eq_zero (by rw [hlen];exact h0)
    rw [hnil,h0]
    refine .sl0 _ _ _ _ (fun he=>?_) (fun hn=>?_)
    ·have:=hex he
     simp only [mm]
     cases mx with
     | none=>simp only at this ⊢;rw [hexc this.1];omega
     | some _=>simp only at this ⊢;omega
    ·by_cases h2:mm = a
     ·omega
     ·rw [if_neg h2] at hn
      have hadn':=hadn (by simpa using hn)
      simp only [mm]
      cases mx with
      | none=>simp only;omega
      | some om=>have:=(hMx om rfl).2.2.1;simp only;omega
   ·have hne:rows ≠ []:=by intro e;subst e;simp at hbl;omega
    obtain ⟨bk,off,c,e',fr,had,hF,hsz,hR⟩:=hblk hne
    have hma:¬ mm = a:=by omega
    rw [if_neg hma,had]
    have hadd:(⟨bk,off,none⟩ : Addr).add (a * re.size) = ⟨bk,off + a * re.size,none⟩:=by unfold Addr.add;split<;>simp_all
    have hbm:b * re.size ≤ rows.length * re.size:=Nat.mul_le_mul_right _ hbl
    have hsub:a * re.size + (b - a) * re.size = b * re.size:=by rw [← Nat.add_mul];congr 1;omega
    have:=M.sl (F:=F) ρ bk (off + a * re.size) (mm - a) c e' fr ex' re.size ((rows.take b).drop a) hF (by rw [hlen];omega) (fun he=>by
      have:=hex he
      rw [hlen]
      simp only [mm]
      cases mx with
      | none=>simp only at this ⊢;rw [hexc this.1];omega
      | some _=>simp only at this ⊢;omega) (by rw [hlen];omega) (fun row hrow=>hrk row (List.mem_of_mem_take (List.mem_of_mem_drop hrow)))
     (fun i j row y v hi' hj hv'=>by
      rw [List.getElem?_drop] at hi'
      have hlt:a + i < b:=by
       have:=(List.getElem?_eq_some_iff.1 hi').1
       simp at this;omega
      rw [List.getElem?_take,if_pos hlt] at hi'
      exact hR (a + i) j row y v hi' hj (by rw [Nat.add_mul];rw [← hv'];congr 1;omega))
    rw [hlen] at this
    simpa [hadd] using this
def Src (P:Program) (F:Still) (ρ:Places) (w:World) (x:Value) (k:Nat) (rows:List (List AV)) (news:List Value):Prop :=
 (∀ w',w'.heap = w.heap → (Builtin.lenOf x).run P w' = .ok rows.length w' ∧ (Builtin.firstCells k rows.length x).run P w' = .ok news.toArray w') ∧ news.length = rows.length * k ∧ (∀ v,v ∈ news → v.oneCell' = true) ∧ RowsAt F ρ news.toArray k rows
theorem XA {P:Program} {F:Still} {ρ:Places} {w:World} {k:Nat} {rows:List (List AV)} {b off cap:Nat} {c:Array Value} {e:TypeId} {fr:Nat × Nat} (hb:w.heap[b]? = some (.cells c e fr)) (hs:off + rows.length * k ≤ c.size) (hk : ∀ row,row ∈ rows → row.length = k)
  (hcl : ∀ row,row ∈ rows → row.all yo = true) (hR : ∀ (i j:Nat) row x v,rows[i]? = some row → row[j]? = some x → c[off + i * k + j]? = some v → M F ρ v x) :
  Src P F ρ w (.slice (some ⟨b,off,none⟩) rows.length cap) k rows ((c.toList.drop off).take (rows.length * k)):=by
 have hlen:((c.toList.drop off).take (rows.length * k)).length = rows.length * k:=by simp;omega
 have hget : ∀ (i:Nat) v,((c.toList.drop off).take (rows.length * k))[i]? = some v → c[off + i]? = some v ∧ i < rows.length * k:=by
  intro i v hv
  have hi:i < rows.length * k:=by rw [← hlen];exact (List.getElem?_eq_some_iff.1 hv).1
  rw [getElem?_drop_take _ _ _ _ hi] at hv
  exact ⟨by simpa using hv,hi⟩
 refine ⟨fun w' hw'=>⟨rfl,?_⟩,hlen,fun v hv=>?_,hk,fun i j row x v h1 h2 h3=>?_⟩
 ·have:=run_loadCells_list (P:=P) w' ⟨b,off,none⟩ ((c.toList.drop off).take (rows.length * k)) (fun i v hi=>by
   obtain ⟨h1,_⟩:=hget i v hi
   have:(⟨b,off,none⟩ : Addr).add i = ⟨b,off + i,none⟩:=by unfold Addr.add;split<;>simp_all
   rw [this]
   simp [World.cell?,hw',hb,h1])
  rw [hlen] at this
  simpa [Builtin.firstCells] using this
 ·obtain ⟨p,hp⟩:=List.mem_iff_getElem?.1 hv
  obtain ⟨h1,h2⟩:=hget p v hp
  have hk0:0 < k:=by rcases Nat.eq_zero_or_pos k with h|h; · subst h;simp at h2
                     ·exact h
  have hi:p / k < rows.length:=(Nat.div_lt_iff_lt_mul hk0).2 h2
  have hrow:=List.getElem?_eq_getElem hi
  have hj:p % k < (rows[p / k]).length:=by rw [hk _ (List.mem_of_getElem? hrow)];exact Nat.mod_lt _ hk0
  have hx:=List.getElem?_eq_getElem hj
  have hm:=hR (p / k) (p % k) _ _ v hrow hx (by rw [Nat.add_assoc,Nat.div_add_mod'];exact h1)
  exact hm.oneCell (List.all_eq_true.1 (hcl _ (List.mem_of_getElem? hrow)) _ (List.mem_of_getElem? hx))
 ·have h3' : ((c.toList.drop off).take (rows.length * k))[i * k + j]? = some v:=by simpa using h3
  obtain ⟨h4,_⟩:=hget _ v h3'
  exact hR i j row x v h1 h2 (by rw [Nat.add_assoc];exact h4)
theorem wc {P:Program} {F:Still} {ρ:Places} {w:World} {k cap:Nat} {a:Option Addr}:Src P F ρ w (.slice a 0 cap) k [] []:=by
 refine ⟨fun w' _=>⟨rfl,?_⟩,by simp,(fun v hv=>by cases hv),(fun row hr=>by cases hr),fun i j row x v h1=>by simp at h1⟩
 cases a with
 | none=>rfl
 | some a=>simp [Builtin.firstCells,loadCells,loadCellsFrom]
def SrcA (t:Nat → AV) (h:Nat → HB) (x:Operand) (k:Nat) (rows:List (List AV)) (rh:List Nat):Prop :=
 (∀ row,row ∈ rows → row.length = k) ∧ (∀ row,row ∈ rows → row.all yo = true) ∧
 ((∃ ex,evA t x = .sl ex rows) ∨ ∃ n off len ex rs,evA t x = .os n off len ∧ n ∈ rh ∧ h n = .own ex k rs ∧ off + len ≤ rs.length ∧ rows = (rs.drop off).take len)
theorem SrcA.src {P:Program} {F:Still} {ρ:Places} {w:World} {x:Operand} {k:Nat} {rows:List (List AV)} {rh:List Nat} {a:Act} (hsrc:SrcA t h x k rows rh) (hag : ∀ b o,F b = some o → w.heap[b]? = some o) (hm:M F ρ (a.eval x) (evA t x)) (hown : ∀ n,n ∈ rh → OwnAt F ρ w n (h n)) :
  ∃ news,Src P F ρ w (a.eval x) k rows news:=by
 obtain ⟨hk,hcl,hsrc⟩:=hsrc
 rcases hsrc with ⟨ex,he⟩|⟨n,off,len,ex,rs,he,hn,hh,hl,hrows⟩
 ·rw [he] at hm
  rcases hm.sl_inv with ⟨h2,ad,cap,hv,_⟩|⟨b,o,cap,c,e',fr,kk,hb,h2,_,hsz,hkk,hR,hv⟩
  ·subst h2;rw [hv];exact ⟨_,wc⟩
  ·by_cases hne:rows = []
   ·subst hne;rw [hv];exact ⟨_,wc⟩
   ·have:kk = k:=by
     cases rows with
     | nil=>exact absurd rfl hne
     | cons row rows=>rw [← hkk row (List.mem_cons_self ..)];exact hk row (List.mem_cons_self ..)
    subst this
    rw [hv]
    exact ⟨_,XA (hag _ _ hb) hsz hk hcl (fun i j row x v h1 h2 h3=>(hR i j row x v h1 h2 h3).mono (Still.le_refl F) (wL ρ))⟩
 ·have ho:=hown n hn
  rw [hh] at ho
  rw [he] at hm
  have hlen:rows.length = len:=by rw [hrows];simp;omega
  rcases hm.os_inv with ⟨_,rfl,rfl,ad,hv⟩|⟨b,k',cap,ad,hρ,hv,hcap,ha⟩
  ·have:rows = []:=List.eq_nil_of_length_eq_zero hlen
   subst this;rw [hv];exact ⟨_,wc⟩
  ·by_cases h0:len = 0
   ·subst h0
    have:rows = []:=List.eq_nil_of_length_eq_zero hlen
    subst this;rw [hv];exact ⟨_,wc⟩
   ·obtain ⟨rfl,c,e,hb,hsz,hle,_,hR⟩:=y8 ho hρ
    have ha':=ha (by omega)
    subst ha'
    rw [hv, ← hlen]
    refine ⟨_,XA hb ?_ hk hcl fun i j row x v h1 h2 h3=>?_⟩
    ·rw [hsz,hlen, ← Nat.add_mul];exact Nat.mul_le_mul_right _ hcap
    ·rw [hrows] at h1
     have hi:i < len:=by have:=(List.getElem?_eq_some_iff.1 h1).1;simp at this;omega
     rw [getElem?_drop_take _ _ _ _ hi] at h1
     exact hR.2 (off + i) j row x v h1 h2 (by rw [Nat.add_mul];exact h3)
theorem kN {P:Program} {w:World} {T2:TypeId} (T ty e:TypeId) (i:TypeInfo) (z:Value) (ht:P.underlying T = some (.slice e)) (hi:P.info? e = some i) (hz:i.zero = some z) (base:Option Addr) (n cap m:Nat) (x:Value) (olds news:List Value)
  (hx : ∀ w',w'.heap = w.heap → (Builtin.lenOf x).run P w' = .ok m w' ∧ (Builtin.firstCells i.size m x).run P w' = .ok news.toArray w') (ho : ∀ w',w'.heap = w.heap → (Builtin.firstCells i.size n (.slice base n cap)).run P w' = .ok olds.toArray w')
  (hg:cap < n + m) (h63:n + m ≤ maxLen) (hb:(n + m) * i.bytes ≤ 140737488355328) (h2:P.underlying T2 = some .string ∨ ∃ e',P.underlying T2 = some (.slice e')) :
  (Builtin.append_ #[T,T2] ty #[.slice base n cap,x]).run P w = .ok (.slice (some ⟨w.heap.size,0,none⟩) (n + m) (grownCap w (n + m) cap e))
   (w.drew.alloc (.cells (olds.toArray ++ news.toArray ++ Builtin.zeroCells z.cells (grownCap w (n + m) cap e - (n + m))) e)):=by
 have hn:¬ (n + m ≤ cap):=by omega
 have h63' : ¬ (9223372036854775807 < ((n:Int) + (m:Int))):=by simp only [maxLen] at h63;omega
 have h48' : ¬ (281474976710656 < Builtin.nextslicecap (n + m) cap * i.bytes):=by have:=growslice_fits (old:=cap) (by omega) hb;omega
 have e1:=hx w rfl
 have e2:=hx w.drew rfl
 have e3:=ho w.drew rfl
 rcases h2 with h2|⟨e',h2⟩
 all_goals
  simp [Builtin.append_,run_underlying ht,run_underlying h2,sizeOf,typeInfo,zeroValue,hi,hz,e1.1,hn,h63',h48',Question.forced,e2.2,e3,newRow,grownCap]
  congr 2
  apply Array.ext'
  simp [List.append_assoc]
theorem RowsAt.app {F:Still} {ρ:Places} {k:Nat} {olds news rest:List Value} {rows rows' : List (List AV)} (h1:RowsAt F ρ olds.toArray k rows) (h2:RowsAt F ρ news.toArray k rows') (hl:olds.length = rows.length * k) (hl' : news.length = rows'.length * k) :
  RowsAt F ρ (olds ++ news ++ rest).toArray k (rows ++ rows'):=by
 refine ⟨fun row hr=>?_,fun i j row x v hi hj hv=>?_⟩
 ·rcases List.mem_append.1 hr with hr|hr
  ·exact h1.1 row hr
  ·exact h2.1 row hr
 ·simp only [List.getElem?_toArray] at hv
  rw [List.getElem?_append] at hi
  have hjk:j < k:=by
   have hlen:row.length = k:=by
    split at hi
    ·exact h1.1 row (List.mem_of_getElem? hi)
    ·exact h2.1 row (List.mem_of_getElem? hi)
   rw [← hlen];exact (List.getElem?_eq_some_iff.1 hj).1
  split at hi
  ·rename_i hlt
   have hb:=kU (k:=k) hlt (Nat.le_refl _)
   rw [List.append_assoc,List.getElem?_append_left (by omega)] at hv
   exact h1.2 i j row x v hi hj (by simpa using hv)
  ·rename_i hge
   have hlt:i - rows.length < rows'.length:=(List.getElem?_eq_some_iff.1 hi).1
   have hb:=kU (k:=k) hlt (Nat.le_refl _)
   have hsub:i * k = rows.length * k + (i - rows.length) * k:=by rw [← Nat.add_mul];congr 1;omega
   rw [List.append_assoc,List.getElem?_append_right (by omega),List.getElem?_append_left (by omega)] at hv
   refine h2.2 (i - rows.length) j row x v hi hj ?_
   simp only [List.getElem?_toArray]
   rw [← hv];congr 1;omega
theorem Qr {z:Value} {k:Nat} {olds news:List Value} {n m cap:Nat} (hz:z.cells.size = k) (hl:olds.length = n * k) (hl' : news.length = m * k) (hc:n + m ≤ cap):(olds.toArray ++ news.toArray ++ Builtin.zeroCells z.cells (cap - (n + m))).size = cap * k:=by
 simp only [Array.size_append,List.size_toArray,Builtin.zeroCells,Array.size_map,Array.size_range,hz,hl,hl', ← Nat.add_mul]
 congr 1;omega
theorem RowsAt.grown {F:Still} {ρ:Places} {k:Nat} {olds news:List Value} {z:Array Value} {rows rows' : List (List AV)} (h1:RowsAt F ρ olds.toArray k rows) (h2:RowsAt F ρ news.toArray k rows') (hl:olds.length = rows.length * k) (hl' : news.length = rows'.length * k) :
  RowsAt F ρ (olds.toArray ++ news.toArray ++ z) k (rows ++ rows'):=by
 have e:(olds.toArray ++ news.toArray ++ z) = (olds ++ news ++ z.toList).toArray:=by apply Array.ext';simp
 rw [e]
 exact RowsAt.app (rest:=z.toList) h1 h2 hl hl'
theorem wO (T ty' e:Nat) (x y:Operand) (m:Nat) (rows:List (List AV)) (rh:List Nat) (r re:TRec) (hx:evA t x = .sl true []) (hT:qW C.tab T = some r) (he:r.kind = .slice e) (hE:qW C.tab e = some re) (hz:re.zero.length = re.size)
  (hsrc:SrcA t h y re.size rows rh) (hsz:rows.length * re.bytes ≤ 140737488355328) (hlen:rows.length ≤ 9223372036854775807) (hN:d < N) :
  ja C.P N ⟨some d,.call ⟨.builtin .append, #[x,y], #[T,T]⟩,ty',pos,af,gd⟩ t h ⟨yr x ++ yr y,rh,some d,.os m 0 rows.length,[(m,.own false re.size rows)],[m]⟩:=by
 refine wj (ks:=[]) _ _ m false re.size rows [m] (fun d' hd'=>by injection hd' with e;exact e ▸ hN) (.inl rfl) (by simp) ?_
 intro B A h' F ρ a w hp hm hh hfr
 have h1:=qE (x:=x) hm (fun j hj=>List.mem_append_left _ hj)
 have h2:=qE (x:=y) hm (fun j hj=>List.mem_append_right _ hj)
 rw [hx] at h1
 have hρ:ρ m = none:=hfr m (by simp)
 have hu:=yj (C.ok T r hT) he
 obtain ⟨dd,inf,z,_,hi,hz0,_,_,hsize,hbytes,hzc⟩:=yG (C.ok e re hE)
 obtain ⟨news,hnews,hnl,hn1,hnR⟩:=hsrc.src (P:=C.P) hp.agree h2 (fun n hn=>(hh n hn) ▸ hp.own n)
 have hle:ρ.le (fun n=>if n = m then some none else ρ n):=fun n c hn=>by
  by_cases hnm:n = m
  ·subst hnm;rw [hρ] at hn;cases hn
  ·simpa [hnm] using hn
 obtain ⟨ad,hv⟩ : ∃ ad,a.eval x = .slice ad 0 0:=by
  rcases h1.sl_inv with ⟨_,ad,cap,hv,hc,_⟩|⟨b,o,cap,c,e',fr,kk,hb,h3,hc,_,_,_,hv⟩
  ·have hc0:cap = 0:=hc rfl
   subst hc0;exact ⟨ad,hv⟩
  ·have hc0:cap = 0:=hc rfl
   subst hc0;exact ⟨_,hv⟩
 have hfc : ∀ w' : World,(Builtin.firstCells inf.size 0 (.slice ad 0 0)).run C.P w' = .ok #[] w':=fun w'=>by cases ad<;>simp [Builtin.firstCells,loadCells,loadCellsFrom]
 have hex : ∀ (v:Value) (w2:World),(Builtin.append_ #[T,T] ty' #[.slice ad 0 0,a.eval y]).run C.P w = .ok v w2 → (execOp a.eval ⟨some d,.call ⟨.builtin .append, #[x,y], #[T,T]⟩,ty',pos,af,gd⟩).run C.P w = .ok (.value v) w2:=fun v w2 hr=>by
  simp [execOp,resolve,invoke,builtin,hv,hr]
 by_cases h0:rows.length = 0
 ·have hr:rows = []:=List.eq_nil_of_length_eq_zero h0
  subst hr
  have e1:=hnews w rfl
  have hnn:news = []:=List.eq_nil_of_length_eq_zero (by simpa using hnl)
  subst hnn
  simp only [List.length_nil] at e1
  have hrun:(Builtin.append_ #[T,T] ty' #[.slice ad 0 0,a.eval y]).run C.P w = .ok (.slice ad 0 0) w:=by
   have e2:=e1.2
   rw [← hsize] at e2
   cases ad<;>simp [Builtin.append_,run_underlying hu,sizeOf,typeInfo,hi,e1.1,e2,storeCells]
  exact ⟨.value (.slice ad 0 0),w,none,none,hex _ _ hrun,.inr ⟨_,rfl,.osn _ m _ (by simp)⟩,.inl hρ,hp.kept,(fun b hb=>by cases hb),fun _ _ _=>rfl,(fun b c hb=>by cases hb),.inl ⟨by simp,rfl⟩,(fun h=>by cases h)⟩
 ·have hr:=kN (P:=C.P) (w:=w) T ty' e inf z hu hi hz0 ad 0 0 rows.length (a.eval y) [] news (fun w' hw'=>by rw [hsize];exact hnews w' hw') (fun w' _=>hfc w') (by omega) (by unfold maxLen;omega) (by rw [hbytes];simpa using hsz) (.inr ⟨_,hu⟩)
  simp only [Nat.zero_add] at hr
  have hge:=grownCap_ge w rows.length 0 e
  refine ⟨.value _,_,some (w.heap.size,re.size,grownCap w rows.length 0 e),none,hex _ _ hr,.inr ⟨_,rfl,?_⟩,.inl hρ,hp.kept.drew.alloc _,(fun b hb=>by cases hb),fun b hb _=>heap_alloc_old w.drew _ b hb,(fun b c hb=>by simp only [Option.some.injEq,Prod.mk.injEq] at hb;exact .inr (by omega)),.inr ⟨w.heap.size,_,_,e,by simp,heap_alloc_new w.drew _,?_,hge,(fun h=>by cases h),?_⟩,(fun h=>by cases h)⟩
  ·have:=M.os (F:=F) (fun n=>if n = m then some (some (w.heap.size,re.size,grownCap w rows.length 0 e)) else ρ n) m w.heap.size re.size (grownCap w rows.length 0 e) 0 rows.length ⟨w.heap.size,0,none⟩ (by simp) (by omega) (fun _=>by simp)
   simpa using this
  ·have:=Qr (z:=z) (k:=re.size) (olds:=[]) (news:=news) (n:=0) (m:=rows.length) (cap:=grownCap w rows.length 0 e) (by rw [hzc];simpa using hz) (by simp) hnl (by omega)
   simpa using this
  ·have hle2:ρ.le (fun n=>if n = m then some (some (w.heap.size,re.size,grownCap w rows.length 0 e)) else ρ n):=fun n c hn=>by
    by_cases hnm:n = m
    ·subst hnm;rw [hρ] at hn;cases hn
    ·simpa [hnm] using hn
   have:=RowsAt.grown (F:=F) (ρ:=ρ) (k:=re.size) (olds:=[]) (news:=news) (z:=Builtin.zeroCells z.cells (grownCap w rows.length 0 e - rows.length)) (rows:=[]) (rows':=rows) ⟨(fun row hr=>by cases hr),fun i j row x v h1=>by simp at h1⟩ hnR (by simp) hnl
   exact (by simpa using this:RowsAt F ρ _ re.size rows).mono (Still.le_refl F) hle2
theorem zB (T ty' e:Nat) (x y:Operand) (m n len:Nat) (ex:Bool) (rs rows:List (List AV)) (rh:List Nat) (r re:TRec) (hx:evA t x = .os n 0 len) (hn:h n = .own ex re.size rs) (hl:len ≤ rs.length) (hT:qW C.tab T = some r) (he:r.kind = .slice e) (hE:qW C.tab e = some re)
  (hz:re.zero.length = re.size) (hsrc:SrcA t h y re.size rows rh) (hsz:(len + rows.length) * re.bytes ≤ 140737488355328) (hlen:len + rows.length ≤ 9223372036854775807) (hmn:m ≠ n) (hN:d < N) :
  ja C.P N ⟨some d,.call ⟨.builtin .append, #[x,y], #[T,T]⟩,ty',pos,af,gd⟩ t h ⟨yr x ++ yr y,n :: rh,some d,.os m 0 (len + rows.length),[(m,.own false re.size (rs.take len ++ rows)),(n,.dead)],[m]⟩:=by
 refine wj (ks:=[n]) _ _ m false re.size _ [m] (fun d' hd'=>by injection hd' with e;exact e ▸ hN) (.inl rfl) (by simp) ?_
 intro B A h' F ρ a w hp hm hh hfr
 have h1:=qE (x:=x) hm (fun j hj=>List.mem_append_left _ hj)
 have h2:=qE (x:=y) hm (fun j hj=>List.mem_append_right _ hj)
 rw [hx] at h1
 have hρ:ρ m = none:=hfr m (by simp)
 have hu:=yj (C.ok T r hT) he
 obtain ⟨dd,inf,z,_,hi,hz0,_,_,hsize,hbytes,hzc⟩:=yG (C.ok e re hE)
 obtain ⟨news,hnews,hnl,hn1,hnR⟩:=hsrc.src (P:=C.P) hp.agree h2 (fun n' hn'=>(hh n' (List.mem_cons_of_mem _ hn')) ▸ hp.own n')
 have hn' : h' n = .own ex re.size rs:=(hh n (List.mem_cons_self ..)).trans hn
 have ho:=hp.own n
 rw [hn'] at ho
 have hex : ∀ (ad:Option Addr) (cap:Nat) (v:Value) (w2:World),a.eval x = .slice ad len cap → (Builtin.append_ #[T,T] ty' #[.slice ad len cap,a.eval y]).run C.P w = .ok v w2 → (execOp a.eval ⟨some d,.call ⟨.builtin .append, #[x,y], #[T,T]⟩,ty',pos,af,gd⟩).run C.P w = .ok (.value v) w2:=fun ad cap v w2 hv hr=>by
  simp [execOp,resolve,invoke,builtin,hv,hr]
 have hlt:(rs.take len).length = len:=by simp;omega
 have more : ∀ (ad:Option Addr) (cap:Nat) (olds:List Value),a.eval x = .slice ad len cap → (∀ w',w'.heap = w.heap → (Builtin.firstCells inf.size len (.slice ad len cap)).run C.P w' = .ok olds.toArray w') → olds.length = len * re.size → RowsAt F ρ olds.toArray re.size (rs.take len) → cap < len + rows.length →
   ∃ v w' pl tb,(execOp a.eval ⟨some d,.call ⟨.builtin .append, #[x,y], #[T,T]⟩,ty',pos,af,gd⟩).run C.P w = .ok v w' ∧ (v = .skip ∧ (⟨some d,.call ⟨.builtin .append, #[x,y], #[T,T]⟩,ty',pos,af,gd⟩ : Oper).dst = none ∨ ∃ u,v = .value u ∧ M F (fun n=>if n = m then some pl else ρ n) u (.os m 0 (len + rows.length))) ∧
     (ρ m = none ∨ ρ m = some pl) ∧ B.kept w' ∧ (∀ b,tb = some b → ∃ n0 c,(n0 = m ∨ [n][0]? = some n0) ∧ (h' n0).isOwn = true ∧ ρ n0 = some (some (b,c))) ∧
     (∀ b,b < w.heap.size → tb ≠ some b → w'.heap[b]? = w.heap[b]?) ∧ (∀ b c,pl = some (b,c) → tb = some b ∨ w.heap.size ≤ b) ∧
     OwnAt F (fun n=>if n = m then some pl else ρ n) w' m (.own false re.size (rs.take len ++ rows)) ∧ ([m] = [] → ρ m ≠ none):=by
  intro ad cap olds hv hol hll holR hg
  have hr:=kN (P:=C.P) (w:=w) T ty' e inf z hu hi hz0 ad len cap rows.length (a.eval y) olds news (fun w' hw'=>by rw [hsize];exact hnews w' hw') hol hg (by unfold maxLen;omega) (by rw [hbytes];exact hsz) (.inr ⟨_,hu⟩)
  have hge:=grownCap_ge w (len + rows.length) cap e
  refine ⟨.value _,_,some (w.heap.size,re.size,grownCap w (len + rows.length) cap e),none,hex _ _ _ _ hv hr,.inr ⟨_,rfl,?_⟩,.inl hρ,hp.kept.drew.alloc _,(fun b hb=>by cases hb),fun b hb _=>heap_alloc_old w.drew _ b hb,(fun b c hb=>by simp only [Option.some.injEq,Prod.mk.injEq] at hb;exact .inr (by omega)),.inr ⟨w.heap.size,grownCap w (len + rows.length) cap e,_,e,by simp,heap_alloc_new w.drew _,?_,by rw [List.length_append,hlt];exact hge,(fun h=>by cases h),?_⟩,(fun h=>by cases h)⟩
  ·have:=M.os (F:=F) (fun n=>if n = m then some (some (w.heap.size,re.size,grownCap w (len + rows.length) cap e)) else ρ n) m w.heap.size re.size (grownCap w (len + rows.length) cap e) 0 (len + rows.length) ⟨w.heap.size,0,none⟩ (by simp) (by omega) (fun _=>by simp)
   simpa using this
  ·exact Qr (by rw [hzc];simpa using hz) hll hnl hge
  ·have hle2:ρ.le (fun n=>if n = m then some (some (w.heap.size,re.size,grownCap w (len + rows.length) cap e)) else ρ n):=fun n c hn=>by
    by_cases hnm:n = m
    ·subst hnm;rw [hρ] at hn;cases hn
    ·simpa [hnm] using hn
   exact (RowsAt.grown holR hnR (by rw [hlt];exact hll) hnl).mono (Still.le_refl F) hle2
 rcases h1.os_inv with ⟨hρn,_,rfl,ad,hv⟩|⟨b,k',cap,ad,hρn,hv,hcap,ha⟩
 ·
  have hrs:rs.take 0 = []:=rfl
  by_cases h0:rows.length = 0
  ·have hr:rows = []:=List.eq_nil_of_length_eq_zero h0
   subst hr
   have e1:=hnews w rfl
   have hnn:news = []:=List.eq_nil_of_length_eq_zero (by simpa using hnl)
   subst hnn
   simp only [List.length_nil] at e1
   have hrun:(Builtin.append_ #[T,T] ty' #[.slice ad 0 0,a.eval y]).run C.P w = .ok (.slice ad 0 0) w:=by
    have e2:=e1.2
    rw [← hsize] at e2
    cases ad<;>simp [Builtin.append_,run_underlying hu,sizeOf,typeInfo,hi,e1.1,e2,storeCells]
   exact ⟨.value (.slice ad 0 0),w,none,none,hex _ _ _ _ hv hrun,.inr ⟨_,rfl,.osn _ m _ (by simp)⟩,.inl hρ,hp.kept,(fun b hb=>by cases hb),fun _ _ _=>rfl,(fun b c hb=>by cases hb),.inl ⟨by simp,rfl⟩,(fun h=>by cases h)⟩
  ·exact more ad 0 [] hv (fun w' _=>by cases ad<;>simp [Builtin.firstCells,loadCells,loadCellsFrom]) (by simp) ⟨(fun row hr=>by rw [hrs] at hr;cases hr),fun i j row x v h1=>by simp [hrs] at h1⟩ (by omega)
 ·obtain ⟨rfl,c,e0,hb,hcs,hle,_,hR⟩:=y8 ho hρn
  rw [Nat.sub_zero] at hv
  have hmul:len * re.size ≤ cap * re.size:=Nat.mul_le_mul_right _ (by omega)
  have hcell:(∀ row,row ∈ rs.take len → row.length = re.size):=fun row hr=>hR.1 row (List.mem_of_mem_take hr)
  have hRt : ∀ (i j:Nat) row x v,(rs.take len)[i]? = some row → row[j]? = some x → c[i * re.size + j]? = some v → M F ρ v x:=fun i j row x v h3 h4 h5=>by
   have hi:i < len:=by have:=(List.getElem?_eq_some_iff.1 h3).1;omega
   rw [List.getElem?_take,if_pos hi] at h3
   exact hR.2 i j row x v h3 h4 h5
  by_cases hroom:len + rows.length ≤ cap
  ·
   have hfit:len * re.size + news.length ≤ c.size:=by rw [hnl,hcs, ← Nat.add_mul];exact Nat.mul_le_mul_right _ hroom
   have e1:=hnews w rfl
   have hblk:=(hp.new n b _ (by rw [hn'];rfl) hρn).2
   let c' : Array Value:=(c.toList.take (len * re.size) ++ news ++ c.toList.drop (len * re.size + news.length)).toArray
   have hbase:0 < cap → ad = ⟨b,0,none⟩:=fun h=>by have:=ha h;simpa using this
   have hst : ∃ w2,(Builtin.append_ #[T,T] ty' #[.slice (some ad) len cap,a.eval y]).run C.P w = .ok (.slice (some ad) (len + rows.length) cap) w2 ∧ (∀ b',b' ≠ b → w2.heap[b']? = w.heap[b']?) ∧ w2.heap[b]? = some (.cells c' e0 (0,0)) ∧ B.kept w2:=by
    by_cases hcap0:cap = 0
    ·
     subst hcap0
     have hr0:rows = []:=List.eq_nil_of_length_eq_zero (by omega)
     have hl0:len = 0:=by omega
     have hnn:news = []:=List.eq_nil_of_length_eq_zero (by rw [hnl,hr0];simp)
     refine ⟨w,?_,fun _ _=>rfl,?_,hp.kept⟩
     ·have e2:=e1.2
      rw [← hsize] at e2
      rw [hr0] at e1 e2
      simp only [List.length_nil] at e1 e2
      rw [hnn] at e2
      rw [hl0,hr0]
      simp [Builtin.append_,run_underlying hu,sizeOf,typeInfo,hi,e1.1,e2,storeCells]
     ·rw [hb]
      have:c' = c:=by simp [c',hnn,hl0]
      rw [this]
    ·have had:=hbase (by omega)
     subst had
     have hs:=run_storeCells_at C.P b (len * re.size) e0 news 0 c w hb (by omega) hn1
     simp only [Nat.add_zero] at hs
     refine ⟨w.setRow b c',?_,fun b' hb'=>setRow_other _ _ _ _ hb',setRow_heap _ _ _ _ _ _ hb,?_⟩
     ·have e2:=e1.2
      rw [← hsize] at e2
      have hadd:(⟨b,0,none⟩ : Addr).add (len * inf.size) = ⟨b,len * inf.size,none⟩:=by unfold Addr.add;split<;>simp_all
      have hs2:(storeCells ⟨b,len * inf.size,none⟩ news).run C.P w = .ok () (w.setRow b c'):=by rw [hsize];exact hs
      simp [Builtin.append_,run_underlying hu,sizeOf,typeInfo,hi,e1.1,hroom,e2,hadd,hs2]
     ·refine ⟨hp.kept.os,hp.kept.tape,hp.kept.output,by simpa [World.setRow] using hp.kept.size,fun b' hb' ho'=>?_⟩
      rw [setRow_other _ _ _ _ (by rintro rfl;rcases hblk with hblk|hblk; · omega
                                   ·exact ho' hblk)]
      exact hp.kept.block b' hb' ho'
   obtain ⟨w2,s1,s2,s3,s4⟩:=hst
   refine ⟨.value _,w2,some (b,re.size,cap),some b,hex _ _ _ _ hv s1,.inr ⟨_,rfl,?_⟩,.inl hρ,s4,(fun b' hb'=>by simp only [Option.some.injEq] at hb';subst hb';exact ⟨n,_,.inr rfl,by rw [hn'];rfl,hρn⟩),(fun b' _ hb'=>s2 b' (fun e=>hb' (by rw [e]))),(fun b' c'' he=>by simp only [Option.some.injEq,Prod.mk.injEq] at he;exact .inl (by rw [he.1])),
    .inr ⟨b,cap,c',e0,by simp,s3,?_,by rw [List.length_append,hlt];exact hroom,(fun h=>by cases h),?_⟩,(fun h=>by cases h)⟩
   ·have:=M.os (F:=F) (fun n=>if n = m then some (some (b,re.size,cap)) else ρ n) m b re.size cap 0 (len + rows.length) ad (by simp) (by omega) (fun h=>by simpa using ha h)
    simpa using this
   ·simp only [c',List.size_toArray,List.length_append,List.length_take,List.length_drop,Array.length_toList];omega
   ·have hle2:ρ.le (fun n=>if n = m then some (some (b,re.size,cap)) else ρ n):=fun n c hn=>by
     by_cases hnm:n = m
     ·subst hnm;rw [hρ] at hn;cases hn
     ·simpa [hnm] using hn
    have hlo:(c.toList.take (len * re.size)).length = (rs.take len).length * re.size:=by rw [hlt];simp;omega
    refine (RowsAt.app (olds:=c.toList.take (len * re.size)) (news:=news) (rest:=c.toList.drop (len * re.size + news.length)) ⟨hcell,fun i j row x v h3 h4 h5=>?_⟩ hnR hlo hnl).mono (Still.le_refl F) hle2
    simp only [List.getElem?_toArray,List.getElem?_take] at h5
    split at h5
    ·exact hRt i j row x v h3 h4 (by simpa using h5)
    ·cases h5
  ·
   refine more (some ad) cap (c.toList.take (len * re.size)) hv (fun w' hw'=>?_) (by simp;omega) ⟨hcell,fun i j row x v h3 h4 h5=>?_⟩ (by omega)
   ·by_cases hl0:len = 0
    ·subst hl0;simp [Builtin.firstCells,loadCells,loadCellsFrom]
    ·have had:=ha (by omega)
     rw [Nat.zero_mul] at had
     subst had
     have hlo:(c.toList.take (len * re.size)).length = len * re.size:=by simp;omega
     have:=run_loadCells_list (P:=C.P) w' ⟨b,0,none⟩ (c.toList.take (len * re.size)) (fun i v hiv=>by
      rw [List.getElem?_take] at hiv
      split at hiv
      ·have:(⟨b,0,none⟩ : Addr).add i = ⟨b,i,none⟩:=by unfold Addr.add;split<;>simp_all
       rw [this]
       simp [World.cell?,hw',hb,(by simpa using hiv:c[i]? = some v)]
      ·cases hiv)
     rw [hlo] at this
     rw [hsize]
     exact this
   ·simp only [List.getElem?_toArray,List.getElem?_take] at h5
    split at h5
    ·exact hRt i j row x v h3 h4 (by simpa using h5)
    ·cases h5
end ops
end Go.Ab
