import Derived.Test.YtkkfilkmkdnboaaDoorMz6
/- The abstract layer, 25: the greater one of two numbers. -/
set_option linter.unusedSimpArgs false
set_option linter.unnecessarySimpa false
set_option linter.unusedVariables false
namespace Go.Ab
open Go.RowKit
theorem wf_bd {a : Int} (h : (Lit.int .i64 a).wf = true) : -9223372036854775808 ≤ a ∧ a ≤ 9223372036854775807 := by
  simp only [Lit.wf, Bool.and_eq_true, decide_eq_true_eq] at h
  exact h
theorem ex_max {C : Cx} {N d : Nat} {ty : TypeId} {pos : String} {af : Array Edge} {gd : Option (Nat × Bool)} {t : Nat → AV} {h : Nat → HB} (x y : Operand) (tys : Array TypeId) (a b : Int) (hx : evA t x = .v (.int .i64 a)) (hy : evA t y = .v (.int .i64 b)) (hN : d < N) :
    ExOk C.P N ⟨some d, .call ⟨.builtin .max, #[x, y], tys⟩, ty, pos, af, gd⟩ t h ⟨opT x ++ opT y, [], some d, .v (.int .i64 (max a b)), [], []⟩ :=
  ex_pure _ _ rfl hN fun F ρ act w _ hs _ => by
    have h1 := evA_sound (x := x) hs (fun j hj => List.mem_append_left _ hj)
    have h2 := evA_sound (x := y) hs (fun j hj => List.mem_append_right _ hj)
    rw [hx] at h1; rw [hy] at h2
    obtain ⟨h1, _⟩ := h1.v_inv
    obtain ⟨h2, _⟩ := h2.v_inv
    refine ⟨.int .i64 (max a b), ?_, .v _ _ rfl⟩
    simp [execOp, resolve, invoke, builtin, h1, h2, Builtin.max_, Builtin.max2]
    first
      | omega
      | (split <;> omega)
end Go.Ab
