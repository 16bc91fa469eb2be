import Derived.Test.YtaoffekhpjgmdaaGreatDoorMz5
import Derived.Lib.Bytealg
/- The abstract layer, 22: functions of the library without a body, at two plain arguments. -/
set_option linter.unusedSimpArgs false
set_option linter.unnecessarySimpa false
set_option linter.unusedVariables false
namespace Go.Ab
open Go.RowKit
section ops
variable {C : Cx} {N d : Nat} {ty : TypeId} {pos : String} {af : Array Edge} {gd : Option (Nat × Bool)} {t : Nat → AV} {h : Nat → HB}
theorem ex_ext2 (f : FuncId) (fn : Func) (tys : Array TypeId) (x y : Operand) (a b r : Value) (e : Array Value → Sem Value) (hf : C.P.funcs[f]? = some fn) (hname : (fn.name == "runtime.NumGoroutine") = false)
    (hb : fn.body.isNone = true) (hnx : Extern.findNext fn = none) (hex : Extern.find fn = some e) (hx : evA t x = .v a) (hy : evA t y = .v b) (hrun : ∀ w, (e #[a, b]).run C.P w = .ok r w) (hr : single r = true) (hN : d < N) :
    ExOk C.P N ⟨some d, .call ⟨.value (.func f), #[x, y], tys⟩, ty, pos, af, gd⟩ t h ⟨opT x ++ opT y, [], some d, .v r, [], []⟩ :=
  ex_pure _ _ rfl hN fun F ρ act w _ hs _ => by
    have h1 := evA_sound (x := x) hs (fun j hj => List.mem_append_left _ hj)
    have h2 := evA_sound (x := y) hs (fun j hj => List.mem_append_right _ hj)
    rw [hx] at h1; rw [hy] at h2
    obtain ⟨h1, _⟩ := h1.v_inv
    obtain ⟨h2, _⟩ := h2.v_inv
    refine ⟨r, ?_, .v _ _ hr⟩
    have hcall := run_callFunc_extern hf hname hb hnx hex #[act.eval x, act.eval y] w
    rw [h1, h2, hrun] at hcall
    have hcall' : Sem.run C.P (callFunc f #[act.eval x, act.eval y]) w = Result.ok (.value r) w := by rw [h1, h2]; exact hcall
    have he' : act.eval (.func f) = .func (.func f) #[] #[] := rfl
    simp [execOp, resolve, invoke, he', Deferred.ofValue, hcall']
end ops
end Go.Ab

/- The abstract layer, 23: max of nought and a number; quotients; one byte as a text. -/
set_option linter.unusedSimpArgs false
set_option linter.unnecessarySimpa false
set_option linter.unusedVariables false
namespace Go.Ab
open Go.RowKit
theorem av_int {x y : Int} (h : x = y) : AV.v (.int .i64 x) = AV.v (.int .i64 y) := by rw [h]
section ops
variable {C : Cx} {N d : Nat} {ty : TypeId} {pos : String} {af : Array Edge} {gd : Option (Nat × Bool)} {t : Nat → AV} {h : Nat → HB}
theorem ex_max0 (x y : Operand) (tys : Array TypeId) (a : Int) (hx : evA t x = .v (.int .i64 0)) (hy : evA t y = .v (.int .i64 a)) (hN : d < N) :
    ExOk C.P N ⟨some d, .call ⟨.builtin .max, #[x, y], tys⟩, ty, pos, af, gd⟩ t h ⟨opT x ++ opT y, [], some d, .v (.int .i64 ((a.toNat : Nat) : Int)), [], []⟩ :=
  ex_pure _ _ rfl hN fun F ρ act w _ hs _ => by
    have h1 := evA_sound (x := x) hs (fun j hj => List.mem_append_left _ hj)
    have h2 := evA_sound (x := y) hs (fun j hj => List.mem_append_right _ hj)
    rw [hx] at h1; rw [hy] at h2
    obtain ⟨h1, _⟩ := h1.v_inv
    obtain ⟨h2, _⟩ := h2.v_inv
    refine ⟨.int .i64 ((a.toNat : Nat) : Int), ?_, .v _ _ rfl⟩
    simp [execOp, resolve, invoke, builtin, h1, h2, Builtin.max_, Builtin.max2]
    first
      | omega
      | (split <;> omega)
theorem ex_rem (T : TypeId) (x y : Operand) (yT : TypeId) (a b : Nat) (hx : evA t x = .v (.int .i64 (a : Int))) (hy : evA t y = .v (.int .i64 (b : Int))) (hb : 0 < b) (hN : d < N) :
    ExOk C.P N ⟨some d, .binOp .rem T x y yT, ty, pos, af, gd⟩ t h ⟨opT x ++ opT y, [], some d, .v (.int .i64 ((a % b : Nat) : Int)), [], []⟩ :=
  ex_int .rem T x y yT .i64 a b _ hx hy rfl (fun w => by
    have h0 : ¬ (b : Int) = 0 := by omega
    have h1 : ((a : Int).tmod (b : Int)) = ((a % b : Nat) : Int) := by rw [Int.tmod_eq_emod_of_nonneg (by omega)]; rfl
    simp only [binOp, Op.intDiv, h0, h1, if_false]
    rfl) hN
theorem ex_quo (T : TypeId) (x y : Operand) (yT : TypeId) (a b : Nat) (hx : evA t x = .v (.int .i64 (a : Int))) (hy : evA t y = .v (.int .i64 (b : Int))) (hb : 0 < b) (ha : a ≤ 9223372036854775807) (hN : d < N) :
    ExOk C.P N ⟨some d, .binOp .quo T x y yT, ty, pos, af, gd⟩ t h ⟨opT x ++ opT y, [], some d, .v (.int .i64 ((a / b : Nat) : Int)), [], []⟩ :=
  ex_int .quo T x y yT .i64 a b _ hx hy rfl (fun w => by
    have h0 : ¬ (b : Int) = 0 := by omega
    have h1 : ((a : Int).tdiv (b : Int)) = ((a / b : Nat) : Int) := by rw [Int.tdiv_eq_ediv_of_nonneg (by omega)]; rfl
    have h2 : a / b ≤ a := Nat.div_le_self a b
    have h3 : IntKind.i64.wrap ((a / b : Nat) : Int) = ((a / b : Nat) : Int) := IntWalk.i64_in _ ⟨Int.le_trans (by decide) (Int.natCast_nonneg (a / b)), Int.ofNat_le.2 (Nat.le_trans h2 ha)⟩
    simp only [binOp, Op.intDiv, h0, h1, h3, if_false]
    rfl) hN
/-- One byte as a text. -/
theorem ex_btos1 (src dst e : TypeId) (x : Operand) (ex : Bool) (n : Int) (rs r re : TRec) (hx : evA t x = .sl ex [[.v (.int .u8 n)]]) (hs : look C.tab src = some rs) (hs' : rs.kind = .slice e) (hE : look C.tab e = some re) (he' : re.kind = .int .u8) (hT : look C.tab dst = some r) (he : r.kind = .string) (hN : d < N) :
    ExOk C.P N ⟨some d, .convert src dst x, ty, pos, af, gd⟩ t h ⟨opT x, [], some d, .v (str [UInt8.ofNat n.toNat]), [], []⟩ :=
  ex_pure _ _ rfl hN fun F ρ a w hag hs1 _ => by
    have h1 := evA_sound (x := x) hs1 (fun j hj => hj)
    rw [hx] at h1
    have hu := string_spec (C.ok _ r hT) he
    have hu2 := slice_spec (C.ok _ rs hs) hs'
    have hu3 := int_spec (C.ok _ re hE) he'
    refine ⟨str [UInt8.ofNat n.toNat], ?_, .v _ _ rfl⟩
    rcases h1.sl_inv with ⟨h0, _⟩ | ⟨b, o, cap, c, e', fr, kk, hb, _, _, hsz, hkk, hR, hv⟩
    · cases h0
    · have hk : kk = 1 := (hkk _ (List.mem_singleton.2 rfl)).symm
      subst hk
      have hbw := hag b _ hb
      have hlt : o < c.size := by simp at hsz; omega
      have hcv : c[o]? = some c[o] := Array.getElem?_eq_getElem hlt
      have hcell := (hR 0 0 _ _ c[o] rfl rfl (by simp)).v_inv.1
      have hld := run_loadCells_list (P := C.P) w ⟨b, o, none⟩ [.int .u8 n] (fun i v hiv => by
        cases i with
        | zero =>
          simp only [List.getElem?_cons_zero, Option.some.injEq] at hiv
          subst hiv
          have : (⟨b, o, none⟩ : Addr).add 0 = ⟨b, o, none⟩ := by unfold Addr.add; split <;> simp_all
          rw [this]
          simp [World.cell?, hbw, hcv, hcell]
        | succ i => simp at hiv)
      simp only [List.length_singleton] at hld
      simp [execOp, hv, convert, run_underlying hu, run_underlying hu2, run_underlying hu3, Conv.bytesToString, hld, str]
      rfl
end ops
end Go.Ab
