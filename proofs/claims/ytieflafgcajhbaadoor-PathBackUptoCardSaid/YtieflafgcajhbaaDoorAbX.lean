/- The abstract layer, 15: truth values compared; numbers negated, divided. -/
import Derived.Test.YtieflafgcajhbaaDoorAbUse
set_option linter.unusedSimpArgs false
set_option linter.unusedVariables false
namespace Go.Ab
open Go.RowKit
section ops
variable {C : Cx} {N d : Nat} {ty : TypeId} {pos : String} {af : Array Edge} {gd : Option (Nat × Bool)} {t : Nat → AV} {h : Nat → HB}
theorem bool_spec {P : Program} {T : Nat} {r : TRec} (hT : trec P T = some r) (he : r.kind = .bool) : P.underlying T = some .bool := by
  obtain ⟨dd, i, z, hd, _, _, hk, _⟩ := trec_spec hT
  rw [he] at hk
  cases dd <;> first | exact hd | (simp [kindOf] at hk)
theorem ex_bcmp (op : BinOp) (T : TypeId) (x y : Operand) (yT : TypeId) (a b c : Bool) (r : TRec) (hx : evA t x = .v (.bool a)) (hy : evA t y = .v (.bool b)) (hT : look C.tab T = some r) (he : r.kind = .bool) (hop : (op = .eql ∧ c = (a == b)) ∨ (op = .neq ∧ c = (a != b))) (hN : d < N) :
    ExOk C.P N ⟨some d, .binOp op T x y yT, ty, pos, af, gd⟩ t h ⟨opT x ++ opT y, [], some d, .v (.bool c), [], []⟩ :=
  ex_pure _ _ rfl hN fun F ρ act w _ hs _ => by
    have h1 := evA_sound (x := x) hs (fun j hj => List.mem_append_left _ hj)
    have h2 := evA_sound (x := y) hs (fun j hj => List.mem_append_right _ hj)
    rw [hx] at h1; rw [hy] at h2
    obtain ⟨h1, _⟩ := h1.v_inv
    obtain ⟨h2, _⟩ := h2.v_inv
    refine ⟨.bool c, ?_, .v _ _ rfl⟩
    have hu := bool_spec (C.ok T r hT) he
    have heq : (Op.equal T (.bool a) (.bool b)).run C.P w = .ok (a == b) w := by
      show (Op.equalIn (9999 + 1) T (.bool a) (.bool b)).run C.P w = _
      unfold Op.equalIn
      simp [run_underlying hu]
    rcases hop with ⟨rfl, rfl⟩ | ⟨rfl, rfl⟩
    · simp [execOp, h1, h2, eqGuard, binOp, heq]
    · simp [execOp, h1, h2, eqGuard, binOp, heq, bne]
end ops
end Go.Ab
