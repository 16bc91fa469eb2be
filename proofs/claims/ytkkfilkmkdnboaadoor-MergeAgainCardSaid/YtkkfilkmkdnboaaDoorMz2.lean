import Derived.Test.YtkkfilkmkdnboaaDoorLyB
/- The abstract layer, 15: truth values compared; numbers negated, divided. -/
set_option linter.unusedSimpArgs false
set_option linter.unusedVariables false
namespace Go.Ab
open Go.RowKit
section ops
variable {C : Cx} {N d : Nat} {ty : TypeId} {pos : String} {af : Array Edge} {gd : Option (Nat × Bool)} {t : Nat → AV} {h : Nat → HB}
theorem bool_spec {P : Program} {T : Nat} {r : TRec} (hT : trec P T = some r) (he : r.kind = .bool) : P.underlying T = some .bool := by
  obtain ⟨dd, i, z, hd, _, _, hk, _⟩ := trec_spec hT
  rw [he] at hk
  cases dd <;> first | exact hd | (simp [kindOf] at hk)
theorem ex_bcmp (op : BinOp) (T : TypeId) (x y : Operand) (yT : TypeId) (a b c : Bool) (r : TRec) (hx : evA t x = .v (.bool a)) (hy : evA t y = .v (.bool b)) (hT : look C.tab T = some r) (he : r.kind = .bool) (hop : (op = .eql ∧ c = (a == b)) ∨ (op = .neq ∧ c = (a != b))) (hN : d < N) :
    ExOk C.P N ⟨some d, .binOp op T x y yT, ty, pos, af, gd⟩ t h ⟨opT x ++ opT y, [], some d, .v (.bool c), [], []⟩ :=
  ex_pure _ _ rfl hN fun F ρ act w _ hs _ => by
    have h1 := evA_sound (x := x) hs (fun j hj => List.mem_append_left _ hj)
    have h2 := evA_sound (x := y) hs (fun j hj => List.mem_append_right _ hj)
    rw [hx] at h1; rw [hy] at h2
    obtain ⟨h1, _⟩ := h1.v_inv
    obtain ⟨h2, _⟩ := h2.v_inv
    refine ⟨.bool c, ?_, .v _ _ rfl⟩
    have hu := bool_spec (C.ok T r hT) he
    have heq : (Op.equal T (.bool a) (.bool b)).run C.P w = .ok (a == b) w := by
      show (Op.equalIn (9999 + 1) T (.bool a) (.bool b)).run C.P w = _
      unfold Op.equalIn
      simp [run_underlying hu]
    rcases hop with ⟨rfl, rfl⟩ | ⟨rfl, rfl⟩
    · simp [execOp, h1, h2, eqGuard, binOp, heq]
    · simp [execOp, h1, h2, eqGuard, binOp, heq, bne]
end ops
end Go.Ab

/- The abstract layer, 17: numbers converted, shifted; a call that is handed a row and hands another back. -/
set_option linter.unusedSimpArgs false
set_option linter.unusedVariables false
namespace Go.Ab
open Go.RowKit
section ops
variable {C : Cx} {N d : Nat} {ty : TypeId} {pos : String} {af : Array Edge} {gd : Option (Nat × Bool)} {t : Nat → AV} {h : Nat → HB}
theorem int_spec {P : Program} {T : Nat} {r : TRec} {k : IntKind} (hT : trec P T = some r) (he : r.kind = .int k) : P.underlying T = some (.int k) := by
  obtain ⟨dd, i, z, hd, _, _, hk, _⟩ := trec_spec hT
  rw [he] at hk
  cases dd <;> first | (simp only [kindOf, TK.int.injEq] at hk; subst hk; exact hd) | (simp [kindOf] at hk)
theorem ex_conv (src dst : TypeId) (x : Operand) (k0 k : IntKind) (n m : Int) (rs r : TRec) (hx : evA t x = .v (.int k0 n)) (hs : look C.tab src = some rs) (hs' : rs.kind = .int k0) (hT : look C.tab dst = some r) (he : r.kind = .int k) (hw : k.wrap n = m) (hN : d < N) :
    ExOk C.P N ⟨some d, .convert src dst x, ty, pos, af, gd⟩ t h ⟨opT x, [], some d, .v (.int k m), [], []⟩ :=
  ex_pure _ _ rfl hN fun F ρ a w _ hs1 _ => by
    have h1 := evA_sound (x := x) hs1 (fun j hj => hj)
    rw [hx] at h1
    obtain ⟨h1, _⟩ := h1.v_inv
    refine ⟨.int k m, ?_, .v _ _ rfl⟩
    have hu := int_spec (C.ok _ r hT) he
    have hu2 := int_spec (C.ok _ rs hs) hs'
    subst hw
    simp [execOp, h1, convert, run_underlying hu, run_underlying hu2, Conv.intToInt]
theorem ex_conv_u (src dst : TypeId) (x : Operand) (n : Int) (rs r : TRec) (hx : evA t x = .v (.int .i64 n)) (hs : look C.tab src = some rs) (hs' : rs.kind = .int .i64) (hT : look C.tab dst = some r) (he : r.kind = .int .u64) (h0 : 0 ≤ n) (h1 : n ≤ 18446744073709551615) (hN : d < N) :
    ExOk C.P N ⟨some d, .convert src dst x, ty, pos, af, gd⟩ t h ⟨opT x, [], some d, .v (.int .u64 n), [], []⟩ :=
  ex_conv src dst x .i64 .u64 n n rs r hx hs hs' hT he (IntWalk.u64_in _ ⟨h0, h1⟩) hN
theorem ex_conv_i (src dst : TypeId) (x : Operand) (n : Int) (rs r : TRec) (hx : evA t x = .v (.int .u64 n)) (hs : look C.tab src = some rs) (hs' : rs.kind = .int .u64) (hT : look C.tab dst = some r) (he : r.kind = .int .i64) (h0 : 0 ≤ n) (h1 : n ≤ 9223372036854775807) (hN : d < N) :
    ExOk C.P N ⟨some d, .convert src dst x, ty, pos, af, gd⟩ t h ⟨opT x, [], some d, .v (.int .i64 n), [], []⟩ :=
  ex_conv src dst x .u64 .i64 n n rs r hx hs hs' hT he (IntWalk.i64_in _ ⟨by omega, h1⟩) hN
theorem ex_half (T : TypeId) (x y : Operand) (yT : TypeId) (k yk : IntKind) (a : Int) (hk : k.bits ≠ 0) (hx : evA t x = .v (.int k a)) (hy : evA t y = .v (.int yk 1)) (hN : d < N) :
    ExOk C.P N ⟨some d, .binOp .shr T x y yT, ty, pos, af, gd⟩ t h ⟨opT x ++ opT y, [], some d, .v (.int k (a / 2)), [], []⟩ :=
  ex_pure _ _ rfl hN fun F ρ act w _ hs _ => by
    have h1 := evA_sound (x := x) hs (fun j hj => List.mem_append_left _ hj)
    have h2 := evA_sound (x := y) hs (fun j hj => List.mem_append_right _ hj)
    rw [hx] at h1; rw [hy] at h2
    obtain ⟨h1, _⟩ := h1.v_inv
    obtain ⟨h2, _⟩ := h2.v_inv
    refine ⟨.int k (a / 2), ?_, .v _ _ rfl⟩
    have hmin : min 1 k.bits = 1 := by omega
    simp [execOp, h1, h2, eqGuard, binOp, Op.shift]
    rw [hmin]
    exact Int.fdiv_eq_ediv_of_nonneg _ (by decide)
/-- A call that is handed one row of our memory; what it hands back is another one. -/
theorem ex_callg {f : FuncId} {args : List Operand} {tys : Array TypeId} {ys : List AV} {r r' : AV} {hb hb' : HB} (rh : List Nat) (n m : Nat) (hn : h n = hb) (ho : hb.isOwn = true) (hnr : n ∈ rh) (hmn : m ≠ n)
    (hf : IsFn C.P f) (hc : ACall C.P f ys [hb] r [.dead, hb']) (hz : ArgVL [(n, 0)] rh h (args.map (evA t)) ys) (hr : r.ren [(0, n), (1, m)] = r') (hbp : RenHB [(n, 0)] 0 hb hb) (hbp' : RenHB [(0, n), (1, m)] 0 hb' hb') (hN : d < N) :
    ExOk C.P N ⟨some d, .call ⟨.value (.func f), args.toArray, tys⟩, ty, pos, af, gd⟩ t h ⟨opT (.func f) ++ args.flatMap opT, rh, some d, r', [(n, .dead), (m, hb')], [m]⟩ :=
  ex_call_own (H := [hb]) (H' := [.dead, hb']) (xs := [] ++ args.map (evA t) ++ []) (ys := ys) _ rh [(n, .dead), (m, hb')] [m] rfl hN (enters_call f hf (.func f) args tys [] [] rfl) rfl (by simp) (by simp [Ne.symm hmn]) (fun m hm => by simp at hm; subst hm; exact hnr)
    (by rw [List.nil_append, List.append_nil]; exact hz) hc (fun i m hb1 hi hj => by
      cases i with
      | zero => simp at hi hj; subst hi; subst hj; rw [hn]; exact ⟨ho, hbp⟩
      | succ i => simp at hi) (fun i m hb1 hi => by
      cases i with
      | zero => simp at hi; obtain ⟨rfl, rfl⟩ := hi; trivial
      | succ i =>
        cases i with
        | zero => simp at hi; obtain ⟨rfl, rfl⟩ := hi; exact hbp'
        | succ i => simp at hi) (hr ▸ ren_ren _ _ _)
end ops
theorem opsx_gone {C : Cx} {N : Nat} {all : Array Oper} {es : List Eff} {o : Oper} {os : List Oper} {K : List Eff → St → Prop} {ts : List (Nat × AV)} {hs : List (Nat × HB)} {nx : Nat} {gd rt rh : List Nat} {d : Nat} {x : AV} {hb hb' : HB} {m : Nat} (hE : ExOk C.P N o (getT ts) (getH hs) ⟨rt, rh, some d, x, [(m, hb'), (nx, hb)], [nx]⟩)
    (h : Ops C N all (⟨gd ++ rt, rh, some d, x, [(m, hb'), (nx, hb)], [nx]⟩ :: es) ⟨(d, x) :: ts, (m, hb') :: (nx, hb) :: hs, nx + 1⟩ os K) : OpsX C N all gd es ⟨ts, hs, nx⟩ o os K := by
  refine opsx_eff (τ := ⟨(d, x) :: ts, (m, hb') :: (nx, hb) :: hs, nx + 1⟩) hE ?_ ?_ (by simp [incr]) (by simp) (Nat.le_succ _) h
  · funext i; simp only [Eff.t, Eff.wT, Option.some.injEq, getT]; split <;> rfl
  · funext n
    simp only [Eff.h, Eff.wH, findH, getH]
    split
    · rfl
    · split <;> rfl
theorem hsok_dead {L : List (Nat × Nat)} {nh : Nat} {σ : St} {n' : Nat} {l : List (Nat × HB)} (n : Nat) (hm : Maps L nh n n') (hl : HsOk L nh σ l) : HsOk L nh σ ((n', .dead) :: l) := ⟨⟨n, hm, by cases getH σ.hs n <;> trivial⟩, hl⟩
end Go.Ab

/- The abstract layer, 18: the room of an own slice told; cap, copy. -/
set_option linter.unusedSimpArgs false
set_option linter.unusedVariables false
namespace Go.Ab
open Go.RowKit

/-- Rows of which nothing is known. -/
def junks (k n : Nat) : List (List AV) := List.replicate n (List.replicate k .junk)
@[simp] theorem junks_len (k n : Nat) : (junks k n).length = n := by simp [junks]

theorem awp_cap {C : Cx} {N : Nat} {c : Code} {Q : Exit → St → Prop} {ts : List (Nat × AV)} {hs : List (Nat × HB)} {nx : Nat} (n k : Nat) (rows : List (List AV)) (hn : getH hs n = .own false k rows)
    (h : ∀ cap, rows.length ≤ cap → Awp C N c Q ⟨ts, (n, .own true k (rows ++ junks k (cap - rows.length))) :: hs, nx⟩) : Awp C N c Q ⟨ts, hs, nx⟩ := by
  intro B a w hB g
  obtain ⟨g1, g2, F, ρ, hp, g4⟩ := g
  have ho := hp.own n
  have hn' : getH (⟨ts, hs, nx⟩ : St).hs n = .own false k rows := hn
  have main : ∀ cap, rows.length ≤ cap → OwnAt F ρ w n (.own true k (rows ++ junks k (cap - rows.length))) → Gs B ⟨ts, (n, .own true k (rows ++ junks k (cap - rows.length))) :: hs, nx⟩ a w := by
    intro cap hcap hown
    have hiso : ∀ m, (getH ((n, .own true k (rows ++ junks k (cap - rows.length))) :: hs) m).isOwn = true → (getH hs m).isOwn = true := by
      intro m hm
      rw [getH_cons] at hm
      by_cases e : n = m
      · subst e; rw [hn]; rfl
      · rw [if_neg e] at hm; exact hm
    refine ⟨g1, g2, F, ρ, ?_, g4⟩
    refine { kept := hp.kept, agree := hp.agree, grow := hp.grow, fresh := hp.fresh, names := hp.names, dom := hp.dom, own := fun m => ?_, new := fun m b c ho hm => hp.new m b c (hiso m ho) hm, sep := fun m m' b c c' hne ho ho' => hp.sep m m' b c c' hne (hiso m ho) (hiso m' ho') }
    show OwnAt F ρ w m (getH ((n, _) :: hs) m)
    rw [getH_cons]
    by_cases e : n = m
    · subst e; rw [if_pos rfl]; exact hown
    · rw [if_neg e]; exact hp.own m
  rw [hn'] at ho
  rcases ho with ⟨h1, h2⟩ | ⟨b, cap, cc, e, h1, h2, h3, h4, h5, h6⟩
  · subst h2
    exact h 0 (Nat.le_refl _) B a w hB (main 0 (Nat.le_refl _) (.inl ⟨h1, by simp [junks]⟩))
  · refine h cap h4 B a w hB (main cap h4 (.inr ⟨b, cap, cc, e, h1, h2, h3, ?_, ?_, ?_, ?_⟩))
    · rw [List.length_append, junks_len]; omega
    · intro _; rw [List.length_append, junks_len]; omega
    · intro row hr
      rcases List.mem_append.1 hr with hr | hr
      · exact h6.1 row hr
      · simp only [junks, List.mem_replicate] at hr; rw [hr.2]; simp
    · intro i j row x v hi hj hv
      by_cases hil : i < rows.length
      · rw [List.getElem?_append_left hil] at hi
        exact h6.2 i j row x v hi hj hv
      · rw [List.getElem?_append_right (by omega)] at hi
        have hr := List.mem_of_getElem? hi
        simp only [junks, List.mem_replicate] at hr
        rw [hr.2] at hj
        have hx := List.mem_of_getElem? hj
        rw [List.mem_replicate] at hx
        rw [hx.2]
        exact .junk _ v

section ops
variable {C : Cx} {N d : Nat} {ty : TypeId} {pos : String} {af : Array Edge} {gd : Option (Nat × Bool)} {t : Nat → AV} {h : Nat → HB}

theorem ex_cap_os (argT ty' : Nat) (x : Operand) (n off len k : Nat) (rows : List (List AV)) (r : TRec) (e : Nat) (hx : evA t x = .os n off len) (hn : h n = .own true k rows) (hT : look C.tab argT = some r) (he : r.kind = .slice e) (hN : d < N) :
    ExOk C.P N ⟨some d, .call ⟨.builtin .cap, #[x], #[argT]⟩, ty', pos, af, gd⟩ t h ⟨opT x, [n], some d, .v (.int .i64 ((rows.length - off : Nat) : Int)), [], []⟩ :=
  ex_pure _ _ rfl hN fun F ρ a w _ hs hh => by
    have h1 := evA_sound (x := x) hs (fun j hj => hj)
    rw [hx] at h1
    have ho := hh n (by simp)
    rw [hn] at ho
    have hu := slice_spec (C.ok _ r hT) he
    refine ⟨.int .i64 ((rows.length - off : Nat) : Int), ?_, .v _ _ rfl⟩
    rcases h1.os_inv with ⟨hρ, rfl, rfl, ad0, hv⟩ | ⟨b, k', cap, ad, hρ, hv, hl, ha⟩
    · rcases ho with ⟨_, h2⟩ | ⟨b, cap, c, e, h2, _⟩
      · subst h2
        simp [execOp, resolve, invoke, builtin, Builtin.cap_, hv, run_underlying hu, goInt]
      · rw [hρ] at h2; cases h2
    · obtain ⟨rfl, c, e0, hb, hcs, hle, hex, hR⟩ := own_block ho hρ
      have := hex rfl
      subst this
      simp [execOp, resolve, invoke, builtin, Builtin.cap_, hv, run_underlying hu, goInt]

/-- What is copied: the first rows of a slice. -/
def SrcC (P : Program) (t : Nat → AV) (h : Nat → HB) (y : Operand) (k slen : Nat) (rows : List (List AV)) (rh : List Nat) : Prop :=
  ∀ (F : Still) (ρ : Places) (w : World) (a : Act), (∀ b o, F b = some o → w.heap[b]? = some o) → M F ρ (a.eval y) (evA t y) → (∀ n, n ∈ rh → OwnAt F ρ w n (h n)) →
    ∃ news ad cap, a.eval y = .slice ad slen cap ∧ Src P F ρ w (.slice ad rows.length cap) k rows news

theorem srcC_of {P : Program} {y : Operand} {k : Nat} {rows : List (List AV)} {rh : List Nat} (hs : SrcA t h y k rows rh) : SrcC P t h y k rows.length rows rh := by
  intro F ρ w a hag hm hown
  obtain ⟨news, hsrc⟩ := hs.src (P := P) hag hm hown
  have hl := (hsrc.1 w rfl).1
  have hsl : ∃ ad n cap, a.eval y = .slice ad n cap := by
    rcases hs.2.2 with ⟨ex, he⟩ | ⟨n, off, len, ex, rs, he, _⟩
    · rw [he] at hm
      rcases hm.sl_inv with ⟨h2, ad, cap, hv, _⟩ | ⟨b, o, cap, c, e', fr, kk, hb, h2, _, hsz, hkk, hR, hv⟩
      · exact ⟨_, _, _, hv⟩
      · exact ⟨_, _, _, hv⟩
    · rw [he] at hm
      rcases hm.os_inv with ⟨_, _, _, ad, hv⟩ | ⟨b, k', cap, ad, hρ, hv, _⟩
      · exact ⟨_, _, _, hv⟩
      · exact ⟨_, _, _, hv⟩
  obtain ⟨ad, n, cap, hv⟩ := hsl
  rw [hv] at hl hsrc
  have hn : n = rows.length := by simpa [Builtin.lenOf] using hl
  subst hn
  exact ⟨news, ad, cap, hv, hsrc⟩
/-- The first rows of an own slice. -/
theorem srcC_cut {P : Program} {y : Operand} {k n off len cnt : Nat} {ex : Bool} {rs rows : List (List AV)} {rh : List Nat} (he : evA t y = .os n off len) (hnr : n ∈ rh) (hn : h n = .own ex k rs) (hc : cnt ≤ len) (hl : off + cnt ≤ rs.length) (hrows : (rs.drop off).take cnt = rows)
    (hk : ∀ row, row ∈ rows → row.length = k) (hcl : ∀ row, row ∈ rows → row.all cellLike = true) : SrcC P t h y k len rows rh := by
  intro F ρ w a hag hm hown
  have ho := hown n hnr
  rw [hn] at ho
  rw [he] at hm
  have hlen : rows.length = cnt := by rw [← hrows]; simp; omega
  rcases hm.os_inv with ⟨_, rfl, rfl, ad, hv⟩ | ⟨b, k', cap, ad, hρ, hv, hcap, ha⟩
  · have hr : rows = [] := List.eq_nil_of_length_eq_zero (by omega)
    subst hr
    exact ⟨[], ad, 0, hv, src_empty⟩
  · obtain ⟨rfl, c, e, hb, hsz, hle, _, hR⟩ := own_block ho hρ
    by_cases h0 : cnt = 0
    · have hr : rows = [] := List.eq_nil_of_length_eq_zero (by omega)
      subst hr
      exact ⟨[], some ad, _, hv, src_empty⟩
    · have ha' := ha (by omega)
      subst ha'
      refine ⟨_, _, _, hv, src_block hb ?_ hk hcl fun i j row x v h1 h2 h3 => ?_⟩
      · rw [hsz, hlen, ← Nat.add_mul]; exact Nat.mul_le_mul_right _ (by omega)
      · rw [← hrows] at h1
        have hi : i < cnt := by have := (List.getElem?_eq_some_iff.1 h1).1; simp at this; omega
        rw [getElem?_drop_take _ _ _ _ hi] at h1
        exact hR.2 (off + i) j row x v h1 h2 (by rw [Nat.add_mul]; exact h3)

/-- Copy into an own slice. -/
theorem ex_copy_os (T T' ty' e : Nat) (x y : Operand) (n off len slen : Nat) (ex : Bool) (rs rows : List (List AV)) (rh : List Nat) (r re : TRec) (hx : evA t x = .os n off len) (hn : h n = .own ex re.size rs) (hT : look C.tab T = some r) (he : r.kind = .slice e) (hE : look C.tab e = some re)
    (hsrc : SrcC C.P t h y re.size slen rows rh) (hmin : Nat.min slen len = rows.length) (hfit : off + len ≤ rs.length) (hN : d < N) :
    ExOk C.P N ⟨some d, .call ⟨.builtin .copy, #[x, y], #[T, T']⟩, ty', pos, af, gd⟩ t h ⟨opT x ++ opT y, n :: rh, some d, .v (.int .i64 (rows.length : Int)), [(n, .own ex re.size (rs.take off ++ rows ++ rs.drop (off + rows.length)))], []⟩ := by
  have hrl : rows.length ≤ len := by rw [← hmin]; exact Nat.min_le_right _ _
  refine ex_putrows (C := C) _ _ n ex re.size off rs rows (fun d' hd' => by injection hd' with e; exact e ▸ hN) hn (by simp) (by omega) ?_
  intro B A h' F ρ a w hp hm hh
  have h1 := evA_sound (x := x) hm (fun j hj => List.mem_append_left _ hj)
  have h2 := evA_sound (x := y) hm (fun j hj => List.mem_append_right _ hj)
  rw [hx] at h1
  have hu := slice_spec (C.ok T r hT) he
  obtain ⟨dd, inf, z, _, hi, hz0, _, _, hsize, hbytes, hzc⟩ := trec_spec (C.ok e re hE)
  obtain ⟨news, ady, capy, hvy, hnews, hnl, hn1, hnR⟩ := hsrc F ρ w a hp.agree h2 (fun n' hn' => (hh n' (List.mem_cons_of_mem _ hn')) ▸ hp.own n')
  have e2 := (hnews w rfl).2
  rw [← hsize] at e2
  have e3 : (Builtin.firstCells inf.size rows.length (.slice ady slen capy)).run C.P w = .ok news.toArray w := by
    cases ady <;> exact e2
  have hn' : h' n = .own ex re.size rs := (hh n (by simp)).trans hn
  have ho := hp.own n
  rw [hn'] at ho
  refine ⟨news, hnl, hn1, hnR, ?_⟩
  rcases h1.os_inv with ⟨hρn, rfl, rfl, ad, hv⟩ | ⟨b, k', cap, ad, hρn, hv, hcap, ha⟩
  · left
    have hr : rows = [] := List.eq_nil_of_length_eq_zero (by omega)
    subst hr
    have hnn : news = [] := List.eq_nil_of_length_eq_zero (by simpa using hnl)
    subst hnn
    refine ⟨hρn, rfl, .value (.int .i64 0), ?_, .inr ⟨_, rfl, .v _ _ rfl⟩⟩
    simp only [List.length_nil] at e3 hmin
    cases ad <;> simp [execOp, resolve, invoke, builtin, hv, hvy, Builtin.copy_, Builtin.lenOf, run_underlying hu, sizeOf, typeInfo, hi, e3, storeCells, goInt]
  · right
    obtain ⟨rfl, c, e0, hb, hcs, hle, _, hR⟩ := own_block ho hρn
    refine ⟨b, cap, hρn, fun w' hw1 hw2 => ⟨.value (.int .i64 (rows.length : Int)), ?_, .inr ⟨_, rfl, .v _ _ rfl⟩⟩⟩
    have hs2 : (storeCells ad news).run C.P w = .ok () w' := by
      by_cases hnn : news = []
      · rw [hw2 hnn, hnn]; rfl
      · have hcp : off < cap := by
          have : 0 < rows.length := by
            rcases Nat.eq_zero_or_pos rows.length with h0 | h0
            · rw [h0] at hnl; exact absurd (List.eq_nil_of_length_eq_zero (by simpa using hnl)) hnn
            · exact h0
          omega
        rw [ha hcp]
        exact hw1 hnn
    simp [execOp, resolve, invoke, builtin, hv, hvy, Builtin.copy_, Builtin.lenOf, run_underlying hu, sizeOf, typeInfo, hi, hmin, e3, hs2, goInt]
end ops
end Go.Ab
