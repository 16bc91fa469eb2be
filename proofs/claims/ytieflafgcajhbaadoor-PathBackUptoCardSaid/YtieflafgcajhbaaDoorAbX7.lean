/- The abstract layer, 22: functions of the library without a body, at two plain arguments. -/
import Derived.Test.YtieflafgcajhbaaDoorAbX6
import Derived.Lib.Bytealg
set_option linter.unusedSimpArgs false
set_option linter.unusedVariables false
namespace Go.Ab
open Go.RowKit
section ops
variable {C : Cx} {N d : Nat} {ty : TypeId} {pos : String} {af : Array Edge} {gd : Option (Nat × Bool)} {t : Nat → AV} {h : Nat → HB}
theorem ex_ext2 (f : FuncId) (fn : Func) (tys : Array TypeId) (x y : Operand) (a b r : Value) (e : Array Value → Sem Value) (hf : C.P.funcs[f]? = some fn) (hname : (fn.name == "runtime.NumGoroutine") = false)
    (hb : fn.body.isNone = true) (hnx : Extern.findNext fn = none) (hex : Extern.find fn = some e) (hx : evA t x = .v a) (hy : evA t y = .v b) (hrun : ∀ w, (e #[a, b]).run C.P w = .ok r w) (hr : single r = true) (hN : d < N) :
    ExOk C.P N ⟨some d, .call ⟨.value (.func f), #[x, y], tys⟩, ty, pos, af, gd⟩ t h ⟨opT x ++ opT y, [], some d, .v r, [], []⟩ :=
  ex_pure _ _ rfl hN fun F ρ act w _ hs _ => by
    have h1 := evA_sound (x := x) hs (fun j hj => List.mem_append_left _ hj)
    have h2 := evA_sound (x := y) hs (fun j hj => List.mem_append_right _ hj)
    rw [hx] at h1; rw [hy] at h2
    obtain ⟨h1, _⟩ := h1.v_inv
    obtain ⟨h2, _⟩ := h2.v_inv
    refine ⟨r, ?_, .v _ _ hr⟩
    have hcall := run_callFunc_extern hf hname hb hnx hex #[act.eval x, act.eval y] w
    rw [h1, h2, hrun] at hcall
    have hcall' : Sem.run C.P (callFunc f #[act.eval x, act.eval y]) w = Result.ok (.value r) w := by rw [h1, h2]; exact hcall
    have he' : act.eval (.func f) = .func (.func f) #[] #[] := rfl
    simp [execOp, resolve, invoke, he', Deferred.ofValue, hcall']
end ops
end Go.Ab
