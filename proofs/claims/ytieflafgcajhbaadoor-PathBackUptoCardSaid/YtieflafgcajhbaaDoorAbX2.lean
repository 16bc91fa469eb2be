/- The abstract layer, 17: numbers converted, shifted; a call that is handed a row and hands another back. -/
import Derived.Test.YtieflafgcajhbaaDoorAbX
set_option linter.unusedSimpArgs false
set_option linter.unusedVariables false
namespace Go.Ab
open Go.RowKit
section ops
variable {C : Cx} {N d : Nat} {ty : TypeId} {pos : String} {af : Array Edge} {gd : Option (Nat × Bool)} {t : Nat → AV} {h : Nat → HB}
theorem int_spec {P : Program} {T : Nat} {r : TRec} {k : IntKind} (hT : trec P T = some r) (he : r.kind = .int k) : P.underlying T = some (.int k) := by
  obtain ⟨dd, i, z, hd, _, _, hk, _⟩ := trec_spec hT
  rw [he] at hk
  cases dd <;> first | (simp only [kindOf, TK.int.injEq] at hk; subst hk; exact hd) | (simp [kindOf] at hk)
theorem ex_conv (src dst : TypeId) (x : Operand) (k0 k : IntKind) (n m : Int) (rs r : TRec) (hx : evA t x = .v (.int k0 n)) (hs : look C.tab src = some rs) (hs' : rs.kind = .int k0) (hT : look C.tab dst = some r) (he : r.kind = .int k) (hw : k.wrap n = m) (hN : d < N) :
    ExOk C.P N ⟨some d, .convert src dst x, ty, pos, af, gd⟩ t h ⟨opT x, [], some d, .v (.int k m), [], []⟩ :=
  ex_pure _ _ rfl hN fun F ρ a w _ hs1 _ => by
    have h1 := evA_sound (x := x) hs1 (fun j hj => hj)
    rw [hx] at h1
    obtain ⟨h1, _⟩ := h1.v_inv
    refine ⟨.int k m, ?_, .v _ _ rfl⟩
    have hu := int_spec (C.ok _ r hT) he
    have hu2 := int_spec (C.ok _ rs hs) hs'
    subst hw
    simp [execOp, h1, convert, run_underlying hu, run_underlying hu2, Conv.intToInt]
theorem ex_conv_u (src dst : TypeId) (x : Operand) (n : Int) (rs r : TRec) (hx : evA t x = .v (.int .i64 n)) (hs : look C.tab src = some rs) (hs' : rs.kind = .int .i64) (hT : look C.tab dst = some r) (he : r.kind = .int .u64) (h0 : 0 ≤ n) (h1 : n ≤ 18446744073709551615) (hN : d < N) :
    ExOk C.P N ⟨some d, .convert src dst x, ty, pos, af, gd⟩ t h ⟨opT x, [], some d, .v (.int .u64 n), [], []⟩ :=
  ex_conv src dst x .i64 .u64 n n rs r hx hs hs' hT he (IntWalk.u64_in _ ⟨h0, h1⟩) hN
theorem ex_conv_i (src dst : TypeId) (x : Operand) (n : Int) (rs r : TRec) (hx : evA t x = .v (.int .u64 n)) (hs : look C.tab src = some rs) (hs' : rs.kind = .int .u64) (hT : look C.tab dst = some r) (he : r.kind = .int .i64) (h0 : 0 ≤ n) (h1 : n ≤ 9223372036854775807) (hN : d < N) :
    ExOk C.P N ⟨some d, .convert src dst x, ty, pos, af, gd⟩ t h ⟨opT x, [], some d, .v (.int .i64 n), [], []⟩ :=
  ex_conv src dst x .u64 .i64 n n rs r hx hs hs' hT he (IntWalk.i64_in _ ⟨by omega, h1⟩) hN
theorem ex_half (T : TypeId) (x y : Operand) (yT : TypeId) (k yk : IntKind) (a : Int) (hk : k.bits ≠ 0) (hx : evA t x = .v (.int k a)) (hy : evA t y = .v (.int yk 1)) (hN : d < N) :
    ExOk C.P N ⟨some d, .binOp .shr T x y yT, ty, pos, af, gd⟩ t h ⟨opT x ++ opT y, [], some d, .v (.int k (a / 2)), [], []⟩ :=
  ex_pure _ _ rfl hN fun F ρ act w _ hs _ => by
    have h1 := evA_sound (x := x) hs (fun j hj => List.mem_append_left _ hj)
    have h2 := evA_sound (x := y) hs (fun j hj => List.mem_append_right _ hj)
    rw [hx] at h1; rw [hy] at h2
    obtain ⟨h1, _⟩ := h1.v_inv
    obtain ⟨h2, _⟩ := h2.v_inv
    refine ⟨.int k (a / 2), ?_, .v _ _ rfl⟩
    have hmin : min 1 k.bits = 1 := by omega
    simp [execOp, h1, h2, eqGuard, binOp, Op.shift]
    rw [hmin]
    exact Int.fdiv_eq_ediv_of_nonneg _ (by decide)
/-- A call that is handed one row of our memory; what it hands back is another one. -/
theorem ex_callg {f : FuncId} {args : List Operand} {tys : Array TypeId} {ys : List AV} {r r' : AV} {hb hb' : HB} (rh : List Nat) (n m : Nat) (hn : h n = hb) (ho : hb.isOwn = true) (hnr : n ∈ rh) (hmn : m ≠ n)
    (hf : IsFn C.P f) (hc : ACall C.P f ys [hb] r [.dead, hb']) (hz : ArgVL [(n, 0)] rh h (args.map (evA t)) ys) (hr : r.ren [(0, n), (1, m)] = r') (hbp : RenHB [(n, 0)] 0 hb hb) (hbp' : RenHB [(0, n), (1, m)] 0 hb' hb') (hN : d < N) :
    ExOk C.P N ⟨some d, .call ⟨.value (.func f), args.toArray, tys⟩, ty, pos, af, gd⟩ t h ⟨opT (.func f) ++ args.flatMap opT, rh, some d, r', [(n, .dead), (m, hb')], [m]⟩ :=
  ex_call_own (H := [hb]) (H' := [.dead, hb']) (xs := [] ++ args.map (evA t) ++ []) (ys := ys) _ rh [(n, .dead), (m, hb')] [m] rfl hN (enters_call f hf (.func f) args tys [] [] rfl) rfl (by simp) (by simp [Ne.symm hmn]) (fun m hm => by simp at hm; subst hm; exact hnr)
    (by rw [List.nil_append, List.append_nil]; exact hz) hc (fun i m hb1 hi hj => by
      cases i with
      | zero => simp at hi hj; subst hi; subst hj; rw [hn]; exact ⟨ho, hbp⟩
      | succ i => simp at hi) (fun i m hb1 hi => by
      cases i with
      | zero => simp at hi; obtain ⟨rfl, rfl⟩ := hi; trivial
      | succ i =>
        cases i with
        | zero => simp at hi; obtain ⟨rfl, rfl⟩ := hi; exact hbp'
        | succ i => simp at hi) (hr ▸ ren_ren _ _ _)
end ops
theorem opsx_gone {C : Cx} {N : Nat} {all : Array Oper} {es : List Eff} {o : Oper} {os : List Oper} {K : List Eff → St → Prop} {ts : List (Nat × AV)} {hs : List (Nat × HB)} {nx : Nat} {gd rt rh : List Nat} {d : Nat} {x : AV} {hb hb' : HB} {m : Nat} (hE : ExOk C.P N o (getT ts) (getH hs) ⟨rt, rh, some d, x, [(m, hb'), (nx, hb)], [nx]⟩)
    (h : Ops C N all (⟨gd ++ rt, rh, some d, x, [(m, hb'), (nx, hb)], [nx]⟩ :: es) ⟨(d, x) :: ts, (m, hb') :: (nx, hb) :: hs, nx + 1⟩ os K) : OpsX C N all gd es ⟨ts, hs, nx⟩ o os K := by
  refine opsx_eff (τ := ⟨(d, x) :: ts, (m, hb') :: (nx, hb) :: hs, nx + 1⟩) hE ?_ ?_ (by simp [incr]) (by simp) (Nat.le_succ _) h
  · funext i; simp only [Eff.t, Eff.wT, Option.some.injEq, getT]; split <;> rfl
  · funext n
    simp only [Eff.h, Eff.wH, findH, getH]
    split
    · rfl
    · split <;> rfl
theorem hsok_dead {L : List (Nat × Nat)} {nh : Nat} {σ : St} {n' : Nat} {l : List (Nat × HB)} (n : Nat) (hm : Maps L nh n n') (hl : HsOk L nh σ l) : HsOk L nh σ ((n', .dead) :: l) := ⟨⟨n, hm, by cases getH σ.hs n <;> trivial⟩, hl⟩
end Go.Ab
