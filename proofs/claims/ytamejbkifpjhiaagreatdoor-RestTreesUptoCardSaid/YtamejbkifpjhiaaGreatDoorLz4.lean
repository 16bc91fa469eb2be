import Derived.Test.YtamejbkifpjhiaaGreatDoorLz3
import Derived.Laws.StructEq
set_option linter.unusedSimpArgs false
set_option linter.unusedVariables false
namespace Go.Ab
open Go.RowKit
section ops
variable {C:Cx} {N d:Nat} {ty:TypeId} {pos:String} {af:Array Edge} {gd:Option (Nat × Bool)} {t:Nat → AV} {h:Nat → HB}
theorem qc8 (l:List UInt8):(ByteArray.mk l.toArray).toList = l:=by rw [ByteArray.toList_eq]
theorem qgQ (a b:List UInt8):(a == b) = decide (a = b):=by by_cases h:a = b<;>simp [h]
def qhd:BinOp → List UInt8 → List UInt8 → Option Bool
 | .eql,a,b=>some (decide (a = b))
 | .neq,a,b=>some (!decide (a = b))
 | .lss,a,b=>some (Op.bytesLess a b)
 | .leq,a,b=>some (Op.bytesLess a b || decide (a = b))
 | .gtr,a,b=>some (!(Op.bytesLess a b || decide (a = b)))
 | .geq,a,b=>some (!Op.bytesLess a b)
 | _,_,_=>none
theorem Vb (op:BinOp) (T:TypeId) (x y:Operand) (yT:TypeId) (a b:List UInt8) (c:Bool) (hx:evA t x = .v (str a)) (hy:evA t y = .v (str b)) (hc:qhd op a b = some c) (hN:d < N) :
  ja C.P N ⟨some d,.binOp op T x y yT,ty,pos,af,gd⟩ t h ⟨yr x ++ yr y,[],some d,.v (.bool c),[],[]⟩ :=
 jV _ _ rfl hN fun F ρ act w _ hs _=>by
  have h1:=qE (x:=x) hs (fun j hj=>List.mem_append_left _ hj)
  have h2:=qE (x:=y) hs (fun j hj=>List.mem_append_right _ hj)
  rw [hx] at h1;rw [hy] at h2
  obtain ⟨h1,_⟩:=h1.v_inv
  obtain ⟨h2,_⟩:=h2.v_inv
  refine ⟨.bool c,?_,.v _ _ rfl⟩
  cases op<;>simp only [qhd,Option.some.injEq,reduceCtorEq] at hc<;>subst hc<;>simp [execOp,h1,h2,str,eqGuard,binOp,Op.stringOp,qc8,qgQ]
theorem vV (T:TypeId) (x y:Operand) (yT:TypeId) (a b:List UInt8) (hx:evA t x = .v (str a)) (hy:evA t y = .v (str b)) (hl:a.length + b.length ≤ 9223372036854775807) (hN:d < N) :
  ja C.P N ⟨some d,.binOp .add T x y yT,ty,pos,af,gd⟩ t h ⟨yr x ++ yr y,[],some d,.v (str (a ++ b)),[],[]⟩ :=
 jV _ _ rfl hN fun F ρ act w _ hs _=>by
  have h1:=qE (x:=x) hs (fun j hj=>List.mem_append_left _ hj)
  have h2:=qE (x:=y) hs (fun j hj=>List.mem_append_right _ hj)
  rw [hx] at h1;rw [hy] at h2
  obtain ⟨h1,_⟩:=h1.v_inv
  obtain ⟨h2,_⟩:=h2.v_inv
  refine ⟨str (a ++ b),?_,.v _ _ rfl⟩
  have happ:(ByteArray.mk a.toArray) ++ (ByteArray.mk b.toArray) = ByteArray.mk (a ++ b).toArray:=by
   have h:((⟨a.toArray⟩ : ByteArray) ++ (⟨b.toArray⟩ : ByteArray)).data = (a ++ b).toArray:=by simp
   calc (⟨a.toArray⟩ : ByteArray) ++ (⟨b.toArray⟩ : ByteArray) = ⟨((⟨a.toArray⟩ : ByteArray) ++ (⟨b.toArray⟩ : ByteArray)).data⟩:=rfl
    _ = _:=by rw [h]
  have hmax:¬ (((ByteArray.mk a.toArray).size + (ByteArray.mk b.toArray).size:Nat):Int) > IntKind.i64.max:=by
   rw [Y0,Y0]
   have:IntKind.i64.max = 9223372036854775807:=rfl
   rw [this];omega
  simp only [execOp,h1,h2,str,eqGuard,binOp,Op.stringOp,happ,hmax,if_false,Sem.run_bind,Sem.run_pure,Result.andThen_ok]
  simp [happ]
theorem jq (T:TypeId) (x:Operand) (lo hi:Option Operand) (l:List UInt8) (a b:Nat) (r:TRec) (hx:evA t x = .v (str l)) (hT:qW C.tab T = some r) (he:r.kind = .string)
  (ha:match lo with|none=>a = 0|some o => ∃ k,evA t o = .v (.int k (a:Int))) (hb:match hi with|none=>b = l.length|some o => ∃ k,evA t o = .v (.int k (b:Int))) (hab:a ≤ b) (hbl:b ≤ l.length) (hN:d < N) :
  ja C.P N ⟨some d,.slice T x lo hi none,ty,pos,af,gd⟩ t h ⟨yr x ++ (lo.toList.flatMap yr ++ hi.toList.flatMap yr),[],some d,.v (str ((l.take b).drop a)),[],[]⟩ :=
 jV _ _ rfl hN fun F ρ act w _ hs _=>by
  have h1:=qE (x:=x) hs (fun j hj=>List.mem_append_left _ hj)
  rw [hx] at h1
  obtain ⟨h1,_⟩:=h1.v_inv
  refine ⟨str ((l.take b).drop a),?_,.v _ _ rfl⟩
  have hex:ByteArray.extract ⟨l.toArray⟩ a b = ⟨((l.take b).drop a).toArray⟩:=by
   have h:(ByteArray.extract ⟨l.toArray⟩ a b).data = ((l.take b).drop a).toArray:=by simp [List.drop_take]
   calc ByteArray.extract ⟨l.toArray⟩ a b = ⟨(ByteArray.extract ⟨l.toArray⟩ a b).data⟩:=rfl
    _ = _:=by rw [h]
  have hu:=vS (C.ok T r hT) he
  have hsb : ∀ (o:Operand) (n y:Nat) (code:BoundsCode) (k:IntKind),act.eval o = .int k (n:Int) → n ≤ y → (Instr.sliceBound (act.eval o) y code).run C.P w = .ok n w:=by
   intro o n y code k ho hny
   have:(0 ≤ (n:Int) ∧ (n:Int) ≤ (y:Int)) = True:=by simp;omega
   simp only [Instr.sliceBound,ho,asIntOf,Sem.run_bind,Sem.run_pure,Result.andThen_ok,Sem.run_ite,this,if_true,Int.toNat_natCast]
  have hLo : ∀ o,lo = some o → ∃ k,act.eval o = .int k (a:Int):=by
   intro o ho
   subst ho
   obtain ⟨k,hk⟩:=ha
   have:=qE (x:=o) hs (fun j hj=>List.mem_append_right _ (List.mem_append_left _ (by simpa using hj)))
   rw [hk] at this
   exact ⟨k,this.v_inv.1⟩
  have hHi : ∀ o,hi = some o → ∃ k,act.eval o = .int k (b:Int):=by
   intro o ho
   subst ho
   obtain ⟨k,hk⟩:=hb
   have:=qE (x:=o) hs (fun j hj=>List.mem_append_right _ (List.mem_append_right _ (by simpa using hj)))
   rw [hk] at this
   exact ⟨k,this.v_inv.1⟩
  have hbd:(Instr.sliceBounds false (ByteArray.mk l.toArray).size (ByteArray.mk l.toArray).size (lo.map act.eval) (hi.map act.eval) none).run C.P w = .ok (a,b,(ByteArray.mk l.toArray).size) w:=by
   rw [Y0]
   unfold Instr.sliceBounds
   cases hi with
   | none =>
     simp only at hb
     subst hb
     cases lo with
     | none=>simp only at ha;subst ha;simp
     | some o=>obtain ⟨k,hk⟩:=hLo o rfl;simp [hsb o a l.length .sliceB k hk hab]
   | some o' =>
     obtain ⟨k',hk'⟩:=hHi o' rfl
     cases lo with
     | none=>simp only at ha;subst ha;simp [hsb o' b l.length .sliceAlen k' hk' hbl]
     | some o=>obtain ⟨k,hk⟩:=hLo o rfl;simp [hsb o' b l.length .sliceAlen k' hk' hbl,hsb o a b .sliceB k hk hab]
  simp only [execOp,Instr.sliceAt,Sem.run_bind,run_underlying hu,Result.andThen_ok,Instr.slice,h1,str,Option.map_none,Option.isSome_none,Bool.false_eq_true,if_false,hbd,Sem.run_pure,hex]
def qdQ (P:Program) (T:Nat):Option (List Nat) :=
 match P.underlying T with
 | some (.struct fs) =>
   if P.stoodInHeld T || P.eqGuardType P.depth T then none
   else fs.toList.zipIdx.mapM fun (f,i)=>if f.name == "_" || f.offset != i then none else match P.underlying f.type with
    | some (.int _)=>some 0
    | some .string=>some 1
    | some .bool=>some 2
    | _=>none
 | _=>none
def QZ:Nat → AV → AV → Option Bool
 | 0,.v (.int k a),.v (.int k' b)=>if k = k' then some (decide (a = b)) else none
 | 1,.v (.string a),.v (.string b)=>some (decide (a.data.toList = b.data.toList))
 | 2,.v (.bool a),.v (.bool b)=>some (decide (a = b))
 | _,_,_=>none
def Jm:List Nat → List AV → List AV → Option Bool
 | [],[],[]=>some true
 | k :: ks,x :: xs,y :: ys =>
   match QZ k x y,Jm ks xs ys with
   | some b,some c=>some (b && c)
   | _,_=>none
 | _,_,_=>none
theorem qbg {P:Program} {F:Still} {ρ:Places} {w:World} {k:Nat} {x y:AV} {u v:Value} {T:Nat} {b:Bool} {dp:Nat} (hx:M F ρ u x) (hy:M F ρ v y) (hb:QZ k x y = some b)
  (hk:(match P.underlying T with|some (.int _)=>some 0|some .string=>some 1|some .bool=>some 2|_=>none) = some k):(Op.equalIn (dp + 1) T u v).run P w = .ok b w ∧ u.oneCell' = true:=by
 match k,x,y,hb with
 | 0,.v (.int kk a),.v (.int k' c),hb =>
   obtain ⟨rfl,_⟩:=hx.v_inv
   obtain ⟨rfl,_⟩:=hy.v_inv
   simp only [QZ] at hb
   split at hb
   ·rename_i hkk
    subst hkk
    simp only [Option.some.injEq] at hb
    subst hb
    split at hk<;>simp at hk
    rename_i hu
    rw [run_equalIn_int w dp T kk _ a c hu,qgO]
    exact ⟨rfl,rfl⟩
   ·cases hb
 | 1,.v (.string a),.v (.string c),hb =>
   obtain ⟨rfl,_⟩:=hx.v_inv
   obtain ⟨rfl,_⟩:=hy.v_inv
   simp only [QZ,Option.some.injEq] at hb
   subst hb
   split at hk<;>simp at hk
   rename_i hu
   rw [run_equalIn_string w dp T a c hu,ByteArray.toList_eq,ByteArray.toList_eq,qgQ]
   exact ⟨rfl,rfl⟩
 | 2,.v (.bool a),.v (.bool c),hb =>
   obtain ⟨rfl,_⟩:=hx.v_inv
   obtain ⟨rfl,_⟩:=hy.v_inv
   simp only [QZ,Option.some.injEq] at hb
   subst hb
   split at hk<;>simp at hk
   rename_i hu
   rw [run_equalIn_bool' w dp T a c hu]
   exact ⟨by cases a<;>cases c<;>rfl,rfl⟩
theorem ZW {P:Program} {F:Still} {ρ:Places} {w:World} {us vs:List Value} {dp:Nat} : ∀ (fs:List Field) (n:Nat) (ks:List Nat) (xs ys:List AV) (b:Bool),
  (fs.zipIdx n).mapM (fun (f,i)=>if f.name == "_" || f.offset != i then none else match P.underlying f.type with|some (.int _)=>some 0|some .string=>some 1|some .bool=>some 2|_=>none) = some ks →
  (∀ (i:Nat) x,xs[i]? = some x → ∃ u,us[n + i]? = some u ∧ M F ρ u x) → (∀ (i:Nat) y,ys[i]? = some y → ∃ v,vs[n + i]? = some v ∧ M F ρ v y) → Jm ks xs ys = some b →
  (Op.eqFields (dp + 1) us.toArray vs.toArray fs).run P w = .ok b w
 | [],n,ks,xs,ys,b,hm,hx,hy,hb=>by
   simp at hm;subst hm
   match xs,ys,hb with
   | [],[],hb=>simp [Jm] at hb;subst hb;rfl
 | f :: fs,n,ks,xs,ys,b,hm,hx,hy,hb=>by
   rw [List.zipIdx_cons,List.mapM_cons] at hm
   dsimp only at hm
   cases hc:(f.name == "_" || f.offset != n) with
   | true=>simp [hc] at hm
   | false =>
     simp only [hc,Bool.false_eq_true,if_false] at hm
     cases hk:(match P.underlying f.type with|some (.int _)=>some 0|some .string=>some 1|some .bool=>some 2|_=>none:Option Nat) with
     | none=>rw [hk] at hm;simp at hm
     | some k =>
       rw [hk] at hm
       cases hl:(fs.zipIdx (n + 1)).mapM (fun (f,i)=>if f.name == "_" || f.offset != i then none else match P.underlying f.type with|some (.int _)=>some 0|some .string=>some 1|some .bool=>some 2|_=>none) with
       | none=>rw [hl] at hm;simp at hm
       | some ks' =>
         rw [hl] at hm
         simp at hm
         subst hm
         match xs,ys,hb with
         | x :: xs,y :: ys,hb =>
           simp only [Jm] at hb
           split at hb
           ·rename_i b1 b2 e1 e2
            simp only [Option.some.injEq] at hb
            subst hb
            obtain ⟨u,hu,hmu⟩:=hx 0 x rfl
            obtain ⟨v,hv,hmv⟩:=hy 0 y rfl
            rw [Nat.add_zero] at hu hv
            have hname:f.name ≠ "_":=by intro e;simp [e] at hc
            have hoff:f.offset = n:=by
             simp only [Bool.or_eq_false_iff,bne_eq_false_iff_eq] at hc
             exact hc.2
            obtain ⟨hrun,_⟩:=qbg (P:=P) (w:=w) (dp:=dp) hmu hmv e1 hk
            have hagg:(isAgg f.type).run P w = .ok false w:=by
             unfold isAgg
             split at hk
             all_goals first|(rename_i hu';simp only [Sem.run_bind,run_underlying hu',Result.andThen_ok];rfl)|simp at hk
            have hpu:(part f.type us.toArray f.offset).run P w = .ok u w:=by
             simp only [part,Sem.run_bind,hagg,Result.andThen_ok,Bool.false_eq_true,if_false,hoff,List.getElem?_toArray,hu,Sem.run_pure]
            have hpv:(part f.type vs.toArray f.offset).run P w = .ok v w:=by
             simp only [part,Sem.run_bind,hagg,Result.andThen_ok,Bool.false_eq_true,if_false,hoff,List.getElem?_toArray,hv,Sem.run_pure]
            have ih:=ZW (P:=P) (F:=F) (ρ:=ρ) (w:=w) (us:=us) (vs:=vs) (dp:=dp) fs (n + 1) ks' xs ys b2 hl
             (fun i x' hi=>by have:=hx (i + 1) x' (by simpa using hi);rw [show n + 1 + i = n + (i + 1) from by omega];exact this)
             (fun i y' hi=>by have:=hy (i + 1) y' (by simpa using hi);rw [show n + 1 + i = n + (i + 1) from by omega];exact this) e2
            simp only [Op.eqFields,hname,ne_eq,not_false_eq_true,if_true,Sem.run_bind,hpu,hpv,hrun,Result.andThen_ok]
            cases b1
            ·simp
            ·simp [ih]
           ·cases hb
theorem xY (op:BinOp) (T:TypeId) (x y:Operand) (yT:TypeId) (xs ys:List AV) (ks:List Nat) (b c:Bool) (hx:evA t x = .agg xs) (hy:evA t y = .agg ys) (hk:qdQ C.P T = some ks) (hb:Jm ks xs ys = some b)
  (hop:(op = .eql ∧ c = b) ∨ (op = .neq ∧ c = !b)) (hN:d < N) :
  ja C.P N ⟨some d,.binOp op T x y yT,ty,pos,af,gd⟩ t h ⟨yr x ++ yr y,[],some d,.v (.bool c),[],[]⟩ :=
 jV _ _ rfl hN fun F ρ act w _ hs _=>by
  have h1:=qE (x:=x) hs (fun j hj=>List.mem_append_left _ hj)
  have h2:=qE (x:=y) hs (fun j hj=>List.mem_append_right _ hj)
  rw [hx] at h1;rw [hy] at h2
  obtain ⟨us,h1,l1,m1⟩:=h1.agg_inv
  obtain ⟨vs,h2,l2,m2⟩:=h2.agg_inv
  unfold qdQ at hk
  split at hk
  ·rename_i fs hu
   split at hk
   ·cases hk
   ·rename_i hnot
    simp only [Bool.or_eq_true,not_or,Bool.not_eq_true] at hnot
    have hfo:C.P.fieldsOf T = fs:=by unfold Program.fieldsOf;rw [hu]
    have hrow:=ZW (P:=C.P) (F:=F) (ρ:=ρ) (w:=w) (us:=us) (vs:=vs) (dp:=9998) fs.toList 0 ks xs ys b hk
     (fun i x' hi=>⟨us[i]'(by have:=(List.getElem?_eq_some_iff.1 hi).1;omega),by rw [Nat.zero_add];exact List.getElem?_eq_getElem _,m1 i _ x' (List.getElem?_eq_getElem _) hi⟩)
     (fun i x' hi=>⟨vs[i]'(by have:=(List.getElem?_eq_some_iff.1 hi).1;omega),by rw [Nat.zero_add];exact List.getElem?_eq_getElem _,m2 i _ x' (List.getElem?_eq_getElem _) hi⟩) hb
    have heq:(Op.equalIn 10000 T (.agg us.toArray) (.agg vs.toArray)).run C.P w = .ok b w:=by
     rw [run_equalIn_agg w 9999 T us.toArray vs.toArray (by rw [hfo];exact hu) hnot.1,hfo]
     exact hrow
    refine ⟨.bool c,?_,.v _ _ rfl⟩
    simp only [execOp,h1,h2,Sem.run_bind,run_eqGuard_agg w op T x y us.toArray vs.toArray hnot.2,Result.andThen_ok]
    rcases hop with ⟨rfl,rfl⟩|⟨rfl,rfl⟩
    ·rw [run_eql_struct,heq];rfl
    ·rw [run_neq_struct,heq];rfl
  ·cases hk
end ops
end Go.Ab
