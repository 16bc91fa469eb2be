/- The abstract layer, 7: new variables, fields, elements, lengths, cuts. -/
import Derived.Test.YtieflafgcajhbaaDoorAbMem2
set_option linter.unusedSimpArgs false
set_option linter.unusedVariables false
namespace Go.Ab
open Go.RowKit

section ops
variable {C : Cx} {N d : Nat} {ty : TypeId} {pos : String} {af : Array Edge} {gd : Option (Nat × Bool)} {t : Nat → AV} {h : Nat → HB}

/-- An operation that makes one block. -/
theorem ex_new {P : Program} {o : Oper} {x : AV} (rt rh : List Nat) (m : Nat) (ex : Bool) (k cap : Nat) (rows : List (List AV)) (hd : o.dst = some d) (hN : d < N) (hcap : rows.length ≤ cap) (hex : ex = true → cap = rows.length)
    (hrun : ∀ F ρ (a : Act) (w : World), (∀ j, j ∈ rt → M F ρ (a.tmps.getD j undef) (t j)) → ∃ u c e, (execOp a.eval o).run P w = .ok (.value u) (w.alloc (.cells c e)) ∧ c.size = cap * k ∧ RowsAt F ρ c k rows ∧
      (∀ ρ' : Places, ρ' m = some (some (w.heap.size, k, cap)) → ρ.le ρ' → M F ρ' u x)) :
    ExOk P N o t h ⟨rt, rh, some d, x, [(m, .own ex k rows)], [m]⟩ := by
  have := ex_write (P := P) (N := N) (o := o) (t := t) (h := h) (x := x) rt rh m ex k rows [] [m] (fun d' hd' => by rw [hd] at hd'; injection hd' with e; exact e ▸ hN) (.inl rfl) (by simp) ?_
  · rw [hd] at this; exact this
  · intro B A h' F ρ a w hp hm _ hfr
    obtain ⟨u, c, e, hr, hs, hR, hM⟩ := hrun F ρ a w hm
    have hρ : ρ m = none := hfr m (by simp)
    have hle : ρ.le (fun n => if n = m then some (some (w.heap.size, k, cap)) else ρ n) := by
      intro n c hn
      by_cases hnm : n = m
      · subst hnm; rw [hρ] at hn; cases hn
      · simpa [hnm] using hn
    refine ⟨.value u, _, some (w.heap.size, k, cap), none, hr, .inr ⟨u, rfl, hM _ (by simp) hle⟩, .inl hρ, hp.kept.alloc _, (fun b hb => by cases hb), fun b hb _ => Below.heap_alloc _ _ _ hb, ?_, ?_, (fun h => by cases h)⟩
    · intro b c' he
      simp only [Option.some.injEq, Prod.mk.injEq] at he
      exact .inr (by omega)
    · exact .inr ⟨w.heap.size, cap, c, e, by simp, heap_alloc_new w _, hs, hcap, hex, hR.mono (Still.le_refl F) hle⟩

theorem RowsAt.one {F : Still} {ρ : Places} {c : Array Value} {row : List AV} (hs : c.size = row.length) (hR : ∀ (j : Nat) x v, row[j]? = some x → c[j]? = some v → M F ρ v x) : RowsAt F ρ c row.length [row] := by
  refine ⟨fun r hr => by simp at hr; rw [hr], fun i j r x v hi hj hv => ?_⟩
  cases i with
  | zero => simp at hi; subst hi; exact hR j x v hj (by simpa using hv)
  | succ i => simp at hi

theorem ex_box (T : TypeId) (x : Operand) (m : Nat) (hc : (cellsOf (evA t x)).all cellLike = true) (hN : d < N) :
    ExOk C.P N ⟨some d, .box T x, ty, pos, af, gd⟩ t h ⟨opT x, [], some d, .op m 0 0, [(m, .own true (cellsOf (evA t x)).length [cellsOf (evA t x)])], [m]⟩ :=
  ex_new _ _ m true _ 1 _ rfl hN (by simp) (by simp) fun F ρ a w hm => by
    have h1 := evA_sound (x := x) hm (fun j hj => hj)
    obtain ⟨c1, _, c3⟩ := h1.cells hc
    refine ⟨.pointer (some ⟨w.heap.size, 0, none⟩), (a.eval x).cells, T, ?_, ?_, RowsAt.one (by simpa using c1) (fun j y v hj hv => c3 j v y (by simpa using hv) hj), fun ρ' hρ' _ => ?_⟩
    · simp [execOp, Instr.box, newVar, newRow, newObj, Sem.run, Result.andThen]
    · simpa using c1
    · exact (by simpa using M.op (F := F) _ m _ _ _ 0 0 hρ')

theorem ofV_cellLike {x : Value} (hx : single x = true) : cellLike (ofV x) = true := by
  unfold ofV
  split <;> simp_all [cellLike, single]

theorem ex_alloc (T : TypeId) (m : Nat) (r : TRec) (hT : look C.tab T = some r) (hN : d < N) :
    ExOk C.P N ⟨some d, .alloc T, ty, pos, af, gd⟩ t h ⟨[], [], some d, .op m 0 0, [(m, .own true (r.zero.map ofV).length [r.zero.map ofV])], [m]⟩ :=
  ex_new _ _ m true _ 1 _ rfl hN (by simp) (by simp) fun F ρ a w hm => by
    obtain ⟨z, hz, hzc⟩ := run_zeroOf (C.ok T r hT) w
    refine ⟨.pointer (some ⟨w.heap.size, 0, none⟩), z.cells, T, ?_, by rw [hzc]; simp, RowsAt.one (by rw [hzc]; simp) (fun j y v hj hv => ?_), fun ρ' hρ' _ => ?_⟩
    · simp [execOp, Instr.alloc, hz, newVar, newRow, newObj, Sem.run, Result.andThen]
    · rw [hzc] at hv
      rw [List.getElem?_map] at hj
      simp only [List.getElem?_toArray] at hv
      rw [hv] at hj
      simp only [Option.map_some, Option.some.injEq] at hj
      exact hj ▸ ofV_sound F ρ v
    · exact (by simpa using M.op (F := F) _ m _ _ _ 0 0 hρ')

/-- The place of a field: its offset, its type. -/
def fieldOf (r : TRec) (f : Nat) : Option (Nat × Nat) :=
  match r.kind with
  | .struct fs => fs[f]?
  | _ => none

theorem fieldOf_spec {P : Program} {T : Nat} {r : TRec} (hT : trec P T = some r) {f off ty : Nat} (hf : fieldOf r f = some (off, ty)) : ∃ (fs : Array Field) (fd : Field), P.underlying T = some (.struct fs) ∧ fs[f]? = some fd ∧ fd.offset = off ∧ fd.type = ty := by
  obtain ⟨dd, i, z, hd, _, _, hk, _⟩ := trec_spec hT
  unfold fieldOf at hf
  rw [hk] at hf
  cases dd with
  | struct fs =>
    simp only [kindOf, List.getElem?_map, Option.map_eq_some_iff, Prod.mk.injEq] at hf
    obtain ⟨fd, h1, h2, h3⟩ := hf
    exact ⟨fs, fd, hd, by simpa using h1, h2, h3⟩
  | _ => simp [kindOf] at hf

theorem ex_fieldAddr_own (T : TypeId) (x : Operand) (f n i j off fty : Nat) (r rf : TRec) (hx : evA t x = .op n i j) (hT : look C.tab T = some r) (hf : fieldOf r f = some (off, fty)) (hF : look C.tab fty = some rf) (h0 : rf.size ≠ 0) (hN : d < N) :
    ExOk C.P N ⟨some d, .fieldAddr T x f, ty, pos, af, gd⟩ t h ⟨opT x, [], some d, .op n i (j + off), [], []⟩ :=
  ex_pure _ _ rfl hN fun F ρ a w _ hs _ => by
    have h1 := evA_sound (x := x) hs (fun j hj => hj)
    rw [hx] at h1
    obtain ⟨b, k, cap, hρ, hv⟩ := h1.op_inv
    obtain ⟨fs, fd, hu, hfd, rfl, rfl⟩ := fieldOf_spec (C.ok T r hT) hf
    have hadd : (⟨b, i * k + j, none⟩ : Addr).add fd.offset = ⟨b, i * k + (j + fd.offset), none⟩ := by unfold Addr.add; split <;> simp_all; omega
    refine ⟨.pointer (some ⟨b, i * k + (j + fd.offset), none⟩), ?_, .op _ n b k cap i _ hρ⟩
    simp only [execOp, hv, Instr.fieldAt, Sem.run_bind, run_underlying hu, Result.andThen_ok, hfd, Instr.sureAddr, Sem.run_pure, fieldPlace, run_sizeOf (C.ok _ rf hF), h0, if_false, hadd, Sem.run_ite]

theorem ex_fieldAddr_fp (T : TypeId) (x : Operand) (f : Nat) (rows : List (List AV)) (i j off fty : Nat) (r rf : TRec) (hx : evA t x = .fp rows i j) (hT : look C.tab T = some r) (hf : fieldOf r f = some (off, fty)) (hF : look C.tab fty = some rf) (h0 : rf.size ≠ 0) (hN : d < N) :
    ExOk C.P N ⟨some d, .fieldAddr T x f, ty, pos, af, gd⟩ t h ⟨opT x, [], some d, .fp rows i (j + off), [], []⟩ :=
  ex_pure _ _ rfl hN fun F ρ a w _ hs _ => by
    have h1 := evA_sound (x := x) hs (fun j hj => hj)
    rw [hx] at h1
    obtain ⟨b, o, c, e, fr, k, hb, hi, hsz, hk, hR, hv⟩ := h1.fp_inv
    obtain ⟨fs, fd, hu, hfd, rfl, rfl⟩ := fieldOf_spec (C.ok T r hT) hf
    have hadd : (⟨b, o + i * k + j, none⟩ : Addr).add fd.offset = ⟨b, o + i * k + (j + fd.offset), none⟩ := by unfold Addr.add; split <;> simp_all; omega
    refine ⟨.pointer (some ⟨b, o + i * k + (j + fd.offset), none⟩), ?_, .fp _ b o c e fr k rows i _ hb hi hsz hk hR⟩
    simp only [execOp, hv, Instr.fieldAt, Sem.run_bind, run_underlying hu, Result.andThen_ok, hfd, Instr.sureAddr, Sem.run_pure, fieldPlace, run_sizeOf (C.ok _ rf hF), h0, if_false, hadd, Sem.run_ite]

/-- A part of a struct by value. -/
theorem ex_field (T : TypeId) (x : Operand) (f off fty : Nat) (cs : List AV) (r rf : TRec) (y : AV) (hx : evA t x = .agg cs) (hT : look C.tab T = some r) (hf : fieldOf r f = some (off, fty)) (hF : look C.tab fty = some rf) (hy : cut rf cs off = some y) (hN : d < N) :
    ExOk C.P N ⟨some d, .field T x f, ty, pos, af, gd⟩ t h ⟨opT x, [], some d, y, [], []⟩ :=
  ex_pure _ _ rfl hN fun F ρ a w _ hs _ => by
    have h1 := evA_sound (x := x) hs (fun j hj => hj)
    rw [hx] at h1
    obtain ⟨vs, hv, hl, hm⟩ := h1.agg_inv
    obtain ⟨fs, fd, hu, hfd, rfl, rfl⟩ := fieldOf_spec (C.ok T r hT) hf
    unfold cut at hy
    cases hagg : rf.agg with
    | false =>
      simp only [hagg, Bool.false_eq_true, if_false] at hy
      have hi : fd.offset < vs.length := by have := (List.getElem?_eq_some_iff.1 hy).1; omega
      have hvi : vs[fd.offset]? = some vs[fd.offset] := List.getElem?_eq_getElem hi
      refine ⟨vs[fd.offset], ?_, hm _ _ _ hvi hy⟩
      simp only [execOp, hv, Instr.field, Sem.run_bind, run_underlying hu, Result.andThen_ok, hfd, asAgg, Sem.run_pure, part, run_isAgg (C.ok _ rf hF), hagg, Bool.false_eq_true, if_false, List.getElem?_toArray, hvi, Sem.run_ite]
    | true =>
      simp only [hagg, if_true] at hy
      split at hy
      · rename_i hle
        simp only [Option.some.injEq] at hy
        subst hy
        refine ⟨.agg ((vs.drop fd.offset).take rf.size).toArray, ?_, .agg _ _ _ (by simp; omega) ?_⟩
        · simp only [execOp, hv, Instr.field, Sem.run_bind, run_underlying hu, Result.andThen_ok, hfd, asAgg, Sem.run_pure, part, run_isAgg (C.ok _ rf hF), hagg, if_true, run_sizeOf (C.ok _ rf hF), Sem.run_ite]
          have : vs.toArray.extract fd.offset (fd.offset + rf.size) = ((vs.drop fd.offset).take rf.size).toArray := by
            rw [List.extract_toArray, List.extract_eq_take_drop, show fd.offset + rf.size - fd.offset = rf.size from by omega]
          rw [this]
        · intro i v y hv' hy'
          have hil : i < rf.size := by have := (List.getElem?_eq_some_iff.1 hv').1; simp at this; omega
          rw [getElem?_drop_take _ _ _ _ hil] at hv' hy'
          exact hm _ _ _ hv' hy'
      · cases hy

theorem ex_nilCheck_op (x : Operand) (n i j : Nat) (hx : evA t x = .op n i j) (hN : d < N) : ExOk C.P N ⟨some d, .nilCheck x, ty, pos, af, gd⟩ t h ⟨opT x, [], some d, .op n i j, [], []⟩ :=
  ex_pure _ _ rfl hN fun F ρ a w _ hs _ => by
    have h1 := evA_sound (x := x) hs (fun j hj => hj)
    rw [hx] at h1
    have h2 := h1
    obtain ⟨b, k, cap, hρ, hv⟩ := h1.op_inv
    exact ⟨a.eval x, by simp only [execOp, hv, Sem.run_pure], h2⟩
theorem ex_nilCheck_fp (x : Operand) (rows : List (List AV)) (i j : Nat) (hx : evA t x = .fp rows i j) (hN : d < N) : ExOk C.P N ⟨some d, .nilCheck x, ty, pos, af, gd⟩ t h ⟨opT x, [], some d, .fp rows i j, [], []⟩ :=
  ex_pure _ _ rfl hN fun F ρ a w _ hs _ => by
    have h1 := evA_sound (x := x) hs (fun j hj => hj)
    rw [hx] at h1
    have h2 := h1
    obtain ⟨b, o, c, e, fr, k, hb, hi, hsz, hk, hR, hv⟩ := h1.fp_inv
    exact ⟨a.eval x, by simp only [execOp, hv, Sem.run_pure], h2⟩

theorem slice_spec {P : Program} {T : Nat} {r : TRec} (hT : trec P T = some r) {e : Nat} (he : r.kind = .slice e) : P.underlying T = some (.slice e) := by
  obtain ⟨dd, i, z, hd, _, _, hk, _⟩ := trec_spec hT
  rw [he] at hk
  cases dd <;> first | (simp only [kindOf, TK.slice.injEq] at hk; subst hk; exact hd) | exact hd | (simp [kindOf] at hk)

/-- The address of an element: of rows that nobody writes to. -/
theorem ex_indexAddr_sl (T : TypeId) (x y : Operand) (k : IntKind) (i : Nat) (ex : Bool) (rows : List (List AV)) (e : Nat) (r re : TRec) (row : List AV) (hx : evA t x = .sl ex rows) (hy : evA t y = .v (.int k (i : Int))) (hT : look C.tab T = some r) (he : r.kind = .slice e)
    (hE : look C.tab e = some re) (hr : rows[i]? = some row) (hk : row.length = re.size) (hN : d < N) :
    ExOk C.P N ⟨some d, .indexAddr T x y, ty, pos, af, gd⟩ t h ⟨opT x ++ opT y, [], some d, .fp rows i 0, [], []⟩ :=
  ex_pure _ _ rfl hN fun F ρ a w _ hs _ => by
    have h1 := evA_sound (x := x) hs (fun j hj => List.mem_append_left _ hj)
    have h2 := evA_sound (x := y) hs (fun j hj => List.mem_append_right _ hj)
    rw [hx] at h1; rw [hy] at h2
    obtain ⟨h2, _⟩ := h2.v_inv
    have hi : i < rows.length := (List.getElem?_eq_some_iff.1 hr).1
    rcases h1.sl_inv with ⟨h3, _⟩ | ⟨b, o, cap, c, e', fr, kk, hb, _, _, hsz, hkk, hR, hv⟩
    · rw [h3] at hi; simp at hi
    · have hk' : re.size = kk := by rw [← hk]; exact hkk row (List.mem_of_getElem? hr)
      have hadd : (⟨b, o, none⟩ : Addr).add (i * kk) = ⟨b, o + i * kk + 0, none⟩ := by unfold Addr.add; split <;> simp_all
      refine ⟨.pointer (some ⟨b, o + i * kk + 0, none⟩), ?_, .fp _ b o c e' fr kk rows i 0 hb hi hsz hkk hR⟩
      simp only [execOp, hv, h2, Instr.indexAt, asIntOf, Sem.run_bind, Sem.run_pure, Result.andThen_ok, run_underlying (slice_spec (C.ok T r hT) he)]
      have hlt : (0 ≤ (i : Int) ∧ (i : Int) < (rows.length : Int)) = True := by simp; omega
      simp only [Sem.run_ite, Sem.run_bind, Sem.run_pure, Result.andThen_ok, hlt, if_true, run_sizeOf (C.ok e re hE), hk', Int.toNat_natCast, hadd]

theorem ex_indexAddr_own (T : TypeId) (x y : Operand) (kd : IntKind) (i n off len : Nat) (ex : Bool) (rows : List (List AV)) (e : Nat) (r re : TRec) (hx : evA t x = .os n off len) (hy : evA t y = .v (.int kd (i : Int))) (hT : look C.tab T = some r) (he : r.kind = .slice e)
    (hE : look C.tab e = some re) (hn : h n = .own ex re.size rows) (hi : i < len) (hN : d < N) :
    ExOk C.P N ⟨some d, .indexAddr T x y, ty, pos, af, gd⟩ t h ⟨opT x ++ opT y, [n], some d, .op n (off + i) 0, [], []⟩ :=
  ex_pure _ _ rfl hN fun F ρ a w _ hs hh => by
    have h1 := evA_sound (x := x) hs (fun j hj => List.mem_append_left _ hj)
    have h2 := evA_sound (x := y) hs (fun j hj => List.mem_append_right _ hj)
    rw [hx] at h1; rw [hy] at h2
    obtain ⟨h2, _⟩ := h2.v_inv
    have h3 := hh n (by simp)
    rw [hn] at h3
    rcases h1.os_inv with ⟨_, _, h4, _⟩ | ⟨b, k, cap, ad, hρ, hv, hl, ha⟩
    · omega
    · obtain ⟨rfl, c, e', hb, hsz, hle, hex, hR⟩ := own_block h3 hρ
      have ha' := ha (by omega)
      subst ha'
      have hadd : (⟨b, off * re.size, none⟩ : Addr).add (i * re.size) = ⟨b, (off + i) * re.size + 0, none⟩ := by unfold Addr.add; rw [Nat.add_mul]; split <;> simp_all
      refine ⟨.pointer (some ⟨b, (off + i) * re.size + 0, none⟩), ?_, .op _ n b re.size cap _ 0 hρ⟩
      simp only [execOp, hv, h2, Instr.indexAt, asIntOf, Sem.run_bind, Sem.run_pure, Result.andThen_ok, run_underlying (slice_spec (C.ok T r hT) he)]
      have hlt : (0 ≤ (i : Int) ∧ (i : Int) < (len : Int)) = True := by simp; omega
      simp only [Sem.run_ite, Sem.run_bind, Sem.run_pure, Result.andThen_ok, hlt, if_true, run_sizeOf (C.ok e re hE), Int.toNat_natCast, hadd]

/-- A string of these bytes. -/
def str (l : List UInt8) : Value := .string ⟨l.toArray⟩

theorem size_str (l : List UInt8) : (ByteArray.mk l.toArray).size = l.length := by
  show l.toArray.size = _
  simp

theorem string_spec {P : Program} {T : Nat} {r : TRec} (hT : trec P T = some r) (he : r.kind = .string) : P.underlying T = some .string := by
  obtain ⟨dd, i, z, hd, _, _, hk, _⟩ := trec_spec hT
  rw [he] at hk
  cases dd <;> first | (simp only [kindOf, TK.slice.injEq] at hk; subst hk; exact hd) | exact hd | (simp [kindOf] at hk)

theorem ex_index_str (T : TypeId) (x y : Operand) (kd : IntKind) (i : Nat) (l : List UInt8) (c : UInt8) (r : TRec) (hx : evA t x = .v (str l)) (hy : evA t y = .v (.int kd (i : Int))) (hT : look C.tab T = some r) (he : r.kind = .string)
    (hc : l[i]? = some c) (hN : d < N) : ExOk C.P N ⟨some d, .index T x y, ty, pos, af, gd⟩ t h ⟨opT x ++ opT y, [], some d, .v (.int .u8 (c.toNat : Int)), [], []⟩ :=
  ex_pure _ _ rfl hN fun F ρ a w _ hs _ => by
    have h1 := evA_sound (x := x) hs (fun j hj => List.mem_append_left _ hj)
    have h2 := evA_sound (x := y) hs (fun j hj => List.mem_append_right _ hj)
    rw [hx] at h1; rw [hy] at h2
    obtain ⟨h1, _⟩ := h1.v_inv
    obtain ⟨h2, _⟩ := h2.v_inv
    have hi : i < l.length := (List.getElem?_eq_some_iff.1 hc).1
    have hget : ∀ (hsz : i < (ByteArray.mk l.toArray).size), (ByteArray.mk l.toArray)[i]'hsz = c := fun hsz => by
      have h3 := (List.getElem?_eq_some_iff.1 hc).2
      show l.toArray[i]'_ = c
      simpa using h3
    have hsz : i < (ByteArray.mk l.toArray).size := by show i < l.toArray.size; simpa using hi
    refine ⟨.int .u8 (c.toNat : Int), ?_, .v _ _ rfl⟩
    simp only [execOp, h1, h2, str, Instr.index, asIntOf, Sem.run_bind, Sem.run_pure, Result.andThen_ok, run_underlying (string_spec (C.ok T r hT) he)]
    have hnn : (0 ≤ (i : Int)) = True := by simp
    simp only [hnn, if_true, Int.toNat_natCast, getElem?_pos (ByteArray.mk l.toArray) i hsz, hget hsz, Sem.run_pure, Result.andThen_ok]

theorem ex_len_str (argT ty' : Nat) (x : Operand) (l : List UInt8) (r : TRec) (hx : evA t x = .v (str l)) (hT : look C.tab argT = some r) (he : r.kind = .string) (hN : d < N) :
    ExOk C.P N ⟨some d, .call ⟨.builtin .len, #[x], #[argT]⟩, ty', pos, af, gd⟩ t h ⟨opT x, [], some d, .v (.int .i64 (l.length : Int)), [], []⟩ :=
  ex_pure _ _ rfl hN fun F ρ a w _ hs _ => by
    have h1 := evA_sound (x := x) hs (fun j hj => hj)
    rw [hx] at h1
    obtain ⟨h1, _⟩ := h1.v_inv
    refine ⟨.int .i64 (l.length : Int), ?_, .v _ _ rfl⟩
    simp [execOp, resolve, invoke, builtin, Builtin.len_, h1, str, run_underlying (string_spec (C.ok _ r hT) he), goInt, size_str]

theorem ex_len_sl (argT ty' : Nat) (x : Operand) (ex : Bool) (rows : List (List AV)) (r : TRec) (e : Nat) (hx : evA t x = .sl ex rows) (hT : look C.tab argT = some r) (he : r.kind = .slice e) (hN : d < N) :
    ExOk C.P N ⟨some d, .call ⟨.builtin .len, #[x], #[argT]⟩, ty', pos, af, gd⟩ t h ⟨opT x, [], some d, .v (.int .i64 (rows.length : Int)), [], []⟩ :=
  ex_pure _ _ rfl hN fun F ρ a w _ hs _ => by
    have h1 := evA_sound (x := x) hs (fun j hj => hj)
    rw [hx] at h1
    have hu := slice_spec (C.ok _ r hT) he
    refine ⟨.int .i64 (rows.length : Int), ?_, .v _ _ rfl⟩
    rcases h1.sl_inv with ⟨h3, ad, cap, hv, _⟩ | ⟨b, o, cap, c, e', fr, kk, hb, _, _, hsz, hkk, hR, hv⟩
    · subst h3
      simp [execOp, resolve, invoke, builtin, Builtin.len_, hv, run_underlying hu, goInt]
    · simp [execOp, resolve, invoke, builtin, Builtin.len_, hv, run_underlying hu, goInt]

theorem ex_len_own (argT ty' : Nat) (x : Operand) (n off len : Nat) (r : TRec) (e : Nat) (hx : evA t x = .os n off len) (hT : look C.tab argT = some r) (he : r.kind = .slice e) (hN : d < N) :
    ExOk C.P N ⟨some d, .call ⟨.builtin .len, #[x], #[argT]⟩, ty', pos, af, gd⟩ t h ⟨opT x, [], some d, .v (.int .i64 (len : Int)), [], []⟩ :=
  ex_pure _ _ rfl hN fun F ρ a w _ hs _ => by
    have h1 := evA_sound (x := x) hs (fun j hj => hj)
    rw [hx] at h1
    have hu := slice_spec (C.ok _ r hT) he
    refine ⟨.int .i64 (len : Int), ?_, .v _ _ rfl⟩
    rcases h1.os_inv with ⟨_, _, rfl, ad0, hv⟩ | ⟨b, k, cap, ad, hρ, hv, hl, ha⟩
    · simp [execOp, resolve, invoke, builtin, Builtin.len_, hv, run_underlying hu, goInt]
    · simp [execOp, resolve, invoke, builtin, Builtin.len_, hv, run_underlying hu, goInt]

end ops
end Go.Ab
