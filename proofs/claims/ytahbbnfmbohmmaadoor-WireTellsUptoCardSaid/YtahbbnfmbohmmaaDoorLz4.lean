import Derived.Test.YtahbbnfmbohmmaaDoorLz3
import Derived.Laws.StructEq
set_option linter.unusedSimpArgs false
set_option linter.unusedVariables false
namespace Go.Ab
open Go.RowKit
section ops
variable {C:Cx} {N d:Nat} {ty:TypeId} {pos:String} {af:Array Edge} {gd:Option (Nat × Bool)} {t:Nat → AV} {h:Nat → HB}
theorem YS (l:List UInt8):(ByteArray.mk l.toArray).toList = l:=by rw [ByteArray.toList_eq]
theorem ZP (a b:List UInt8):(a == b) = decide (a = b):=by by_cases h:a = b<;>simp [h]
def ZB:BinOp → List UInt8 → List UInt8 → Option Bool
 | .eql,a,b=>some (decide (a = b))
 | .neq,a,b=>some (!decide (a = b))
 | .lss,a,b=>some (Op.bytesLess a b)
 | .leq,a,b=>some (Op.bytesLess a b || decide (a = b))
 | .gtr,a,b=>some (!(Op.bytesLess a b || decide (a = b)))
 | .geq,a,b=>some (!Op.bytesLess a b)
 | _,_,_=>none
theorem Qd (op:BinOp) (T:TypeId) (x y:Operand) (yT:TypeId) (a b:List UInt8) (c:Bool) (hx:evA t x = .v (str a)) (hy:evA t y = .v (str b)) (hc:ZB op a b = some c) (hN:d < N) :
  qz C.P N ⟨some d,.binOp op T x y yT,ty,pos,af,gd⟩ t h ⟨qW x ++ qW y,[],some d,.v (.bool c),[],[]⟩ :=
 qC _ _ rfl hN fun F ρ act w _ hs _=>by
  have h1:=qf (x:=x) hs (fun j hj=>List.mem_append_left _ hj)
  have h2:=qf (x:=y) hs (fun j hj=>List.mem_append_right _ hj)
  rw [hx] at h1;rw [hy] at h2
  obtain ⟨h1,_⟩:=h1.v_inv
  obtain ⟨h2,_⟩:=h2.v_inv
  refine ⟨.bool c,?_,.v _ _ rfl⟩
  cases op<;>simp only [ZB,Option.some.injEq,reduceCtorEq] at hc<;>subst hc<;>simp [execOp,h1,h2,str,eqGuard,binOp,Op.stringOp,YS,ZP]
theorem Qc (T:TypeId) (x y:Operand) (yT:TypeId) (a b:List UInt8) (hx:evA t x = .v (str a)) (hy:evA t y = .v (str b)) (hl:a.length + b.length ≤ 9223372036854775807) (hN:d < N) :
  qz C.P N ⟨some d,.binOp .add T x y yT,ty,pos,af,gd⟩ t h ⟨qW x ++ qW y,[],some d,.v (str (a ++ b)),[],[]⟩ :=
 qC _ _ rfl hN fun F ρ act w _ hs _=>by
  have h1:=qf (x:=x) hs (fun j hj=>List.mem_append_left _ hj)
  have h2:=qf (x:=y) hs (fun j hj=>List.mem_append_right _ hj)
  rw [hx] at h1;rw [hy] at h2
  obtain ⟨h1,_⟩:=h1.v_inv
  obtain ⟨h2,_⟩:=h2.v_inv
  refine ⟨str (a ++ b),?_,.v _ _ rfl⟩
  have happ:(ByteArray.mk a.toArray) ++ (ByteArray.mk b.toArray) = ByteArray.mk (a ++ b).toArray:=by
   have h:((⟨a.toArray⟩ : ByteArray) ++ (⟨b.toArray⟩ : ByteArray)).data = (a ++ b).toArray:=by simp
   calc (⟨a.toArray⟩ : ByteArray) ++ (⟨b.toArray⟩ : ByteArray) = ⟨((⟨a.toArray⟩ : ByteArray) ++ (⟨b.toArray⟩ : ByteArray)).data⟩:=rfl
    _ = _:=by rw [h]
  have hmax:¬ (((ByteArray.mk a.toArray).size + (ByteArray.mk b.toArray).size:Nat):Int) > IntKind.i64.max:=by
   rw [yK,yK]
   have:IntKind.i64.max = 9223372036854775807:=rfl
   rw [this];omega
  simp only [execOp,h1,h2,str,eqGuard,binOp,Op.stringOp,happ,hmax,if_false,Sem.run_bind,Sem.run_pure,Result.andThen_ok]
  simp [happ]
theorem Qe (T:TypeId) (x:Operand) (lo hi:Option Operand) (l:List UInt8) (a b:Nat) (r:TRec) (hx:evA t x = .v (str l)) (hT:qX C.tab T = some r) (he:r.kind = .string)
  (ha:match lo with|none=>a = 0|some o => ∃ k,evA t o = .v (.int k (a:Int))) (hb:match hi with|none=>b = l.length|some o => ∃ k,evA t o = .v (.int k (b:Int))) (hab:a ≤ b) (hbl:b ≤ l.length) (hN:d < N) :
  qz C.P N ⟨some d,.slice T x lo hi none,ty,pos,af,gd⟩ t h ⟨qW x ++ (lo.toList.flatMap qW ++ hi.toList.flatMap qW),[],some d,.v (str ((l.take b).drop a)),[],[]⟩ :=
 qC _ _ rfl hN fun F ρ act w _ hs _=>by
  have h1:=qf (x:=x) hs (fun j hj=>List.mem_append_left _ hj)
  rw [hx] at h1
  obtain ⟨h1,_⟩:=h1.v_inv
  refine ⟨str ((l.take b).drop a),?_,.v _ _ rfl⟩
  have hex:ByteArray.extract ⟨l.toArray⟩ a b = ⟨((l.take b).drop a).toArray⟩:=by
   have h:(ByteArray.extract ⟨l.toArray⟩ a b).data = ((l.take b).drop a).toArray:=by simp [List.drop_take]
   calc ByteArray.extract ⟨l.toArray⟩ a b = ⟨(ByteArray.extract ⟨l.toArray⟩ a b).data⟩:=rfl
    _ = _:=by rw [h]
  have hu:=yG (C.ok T r hT) he
  have hsb : ∀ (o:Operand) (n y:Nat) (code:BoundsCode) (k:IntKind),act.eval o = .int k (n:Int) → n ≤ y → (Instr.sliceBound (act.eval o) y code).run C.P w = .ok n w:=by
   intro o n y code k ho hny
   have:(0 ≤ (n:Int) ∧ (n:Int) ≤ (y:Int)) = True:=by simp;omega
   simp only [Instr.sliceBound,ho,asIntOf,Sem.run_bind,Sem.run_pure,Result.andThen_ok,Sem.run_ite,this,if_true,Int.toNat_natCast]
  have hLo : ∀ o,lo = some o → ∃ k,act.eval o = .int k (a:Int):=by
   intro o ho
   subst ho
   obtain ⟨k,hk⟩:=ha
   have:=qf (x:=o) hs (fun j hj=>List.mem_append_right _ (List.mem_append_left _ (by simpa using hj)))
   rw [hk] at this
   exact ⟨k,this.v_inv.1⟩
  have hHi : ∀ o,hi = some o → ∃ k,act.eval o = .int k (b:Int):=by
   intro o ho
   subst ho
   obtain ⟨k,hk⟩:=hb
   have:=qf (x:=o) hs (fun j hj=>List.mem_append_right _ (List.mem_append_right _ (by simpa using hj)))
   rw [hk] at this
   exact ⟨k,this.v_inv.1⟩
  have hbd:(Instr.sliceBounds false (ByteArray.mk l.toArray).size (ByteArray.mk l.toArray).size (lo.map act.eval) (hi.map act.eval) none).run C.P w = .ok (a,b,(ByteArray.mk l.toArray).size) w:=by
   rw [yK]
   unfold Instr.sliceBounds
   cases hi with
   | none =>
     simp only at hb
     subst hb
     cases lo with
     | none=>simp only at ha;subst ha;simp
     | some o=>obtain ⟨k,hk⟩:=hLo o rfl;simp [hsb o a l.length .sliceB k hk hab]
   | some o' =>
     obtain ⟨k',hk'⟩:=hHi o' rfl
     cases lo with
     | none=>simp only at ha;subst ha;simp [hsb o' b l.length .sliceAlen k' hk' hbl]
     | some o=>obtain ⟨k,hk⟩:=hLo o rfl;simp [hsb o' b l.length .sliceAlen k' hk' hbl,hsb o a b .sliceB k hk hab]
  simp only [execOp,Instr.sliceAt,Sem.run_bind,run_underlying hu,Result.andThen_ok,Instr.slice,h1,str,Option.map_none,Option.isSome_none,Bool.false_eq_true,if_false,hbd,Sem.run_pure,hex]
end ops
end Go.Ab
