/- The abstract layer, 9: structs and slices built; slices cut; append. -/
import Derived.Test.YtieflafgcajhbaaDoorAbMem4
import Derived.Laws.Append
set_option linter.unusedSimpArgs false
set_option linter.unusedVariables false
namespace Go.Ab
open Go.RowKit

/-- Cells by value and as told. -/
def CellsAt (F : Still) (ρ : Places) (c : Array Value) (xs : List AV) : Prop := c.size = xs.length ∧ ∀ (i : Nat) v x, c[i]? = some v → xs[i]? = some x → M F ρ v x

theorem foldl_put (off : Nat) : ∀ (l : List Value) (s : Nat) (c : Array Value), ((l.zipIdx s).foldl (fun cs (x : Value × Nat) => cs.setIfInBounds (off + x.2) x.1) c).size = c.size ∧
    ∀ p, p < c.size → ((l.zipIdx s).foldl (fun cs (x : Value × Nat) => cs.setIfInBounds (off + x.2) x.1) c)[p]? = if off + s ≤ p ∧ p < off + s + l.length then l[p - (off + s)]? else c[p]?
  | [], s, c => ⟨rfl, fun p _ => by simp; omega⟩
  | v :: l, s, c => by
    simp only [List.zipIdx_cons, List.foldl_cons]
    obtain ⟨h1, h2⟩ := foldl_put off l (s + 1) (c.setIfInBounds (off + s) v)
    refine ⟨by rw [h1]; simp, fun p hp => ?_⟩
    rw [h2 p (by simpa using hp)]
    by_cases hc : off + (s + 1) ≤ p ∧ p < off + (s + 1) + l.length
    · rw [if_pos hc, if_pos (by simp; omega), show p - (off + s) = p - (off + (s + 1)) + 1 from by omega]; simp
    · rw [if_neg hc]
      by_cases he : off + s = p
      · subst he
        rw [if_pos (by simp)]
        simp [hp]
      · rw [if_neg (by simp; omega), Array.getElem?_setIfInBounds_ne he]

/-- Parts laid over cells. -/
def fillA (place : Nat → Option (Nat × Nat)) : List AV → List (Nat × AV) → Option (List AV)
  | cells, [] => some cells
  | cells, (i, x) :: l =>
    match place i with
    | none => none
    | some (off, size) => if (cellsOf x).length = size ∧ off + size ≤ cells.length ∧ (cellsOf x).all cellLike = true then fillA place (putRow cells off (cellsOf x)) l else none

theorem fill_sound {F : Still} {ρ : Places} {place : Nat → Option (Nat × Nat)} : ∀ (ps : List (Nat × Value)) (qs : List (Nat × AV)) (c : Array Value) (xs ys : List AV), CellsAt F ρ c xs → ps.length = qs.length →
    (∀ (i : Nat) p q, ps[i]? = some p → qs[i]? = some q → p.1 = q.1 ∧ M F ρ p.2 q.2) → fillA place xs qs = some ys → ∃ c', Instr.fill place c ps = some c' ∧ CellsAt F ρ c' ys
  | [], [], c, xs, ys, hc, _, _, h => by simp [fillA] at h; subst h; exact ⟨c, rfl, hc⟩
  | (i, v) :: ps, (i', x) :: qs, c, xs, ys, hc, hl, hm, h => by
    obtain ⟨e, hv⟩ := hm 0 (i, v) (i', x) rfl rfl
    have e : i = i' := e
    have hv : M F ρ v x := hv
    subst e
    simp only [fillA] at h
    cases hp : place i with
    | none => rw [hp] at h; cases h
    | some os =>
      obtain ⟨off, size⟩ := os
      rw [hp] at h
      simp only at h
      split at h
      · rename_i hcond
        obtain ⟨h1, h2, h3⟩ := hcond
        obtain ⟨c1, c2, c3⟩ := M.cells hv h3
        have hsz : v.cells.size = size := by rw [← Array.length_toList, c1, h1]
        have hsz2 : v.cells.toList.length = size := by rw [c1, h1]
        have hsz3 : (cellsOf x).length = size := h1
        obtain ⟨f1, f2⟩ := foldl_put off v.cells.toList 0 c
        have hfold : v.cells.zipIdx.foldl (fun cs (x : Value × Nat) => cs.setIfInBounds (off + x.2) x.1) c = (v.cells.toList.zipIdx 0).foldl (fun cs (x : Value × Nat) => cs.setIfInBounds (off + x.2) x.1) c := by
          rw [← Array.foldl_toList, Array.toList_zipIdx]
        have hnew : CellsAt F ρ ((v.cells.toList.zipIdx 0).foldl (fun cs (x : Value × Nat) => cs.setIfInBounds (off + x.2) x.1) c) (putRow xs off (cellsOf x)) := by
          refine ⟨by rw [f1, hc.1, putRow_length (by rw [h1]; exact h2)], fun p u y hu hy => ?_⟩
          have hp' : p < c.size := by have := (Array.getElem?_eq_some_iff.1 hu).1; omega
          rw [f2 p hp'] at hu
          simp only [Nat.add_zero] at hu
          unfold putRow at hy
          rw [List.getElem?_append, List.getElem?_append] at hy
          simp only [List.length_append, List.length_take] at hy
          rw [Nat.min_eq_left (by omega)] at hy
          by_cases a1 : p < off
          · rw [if_neg (by omega)] at hu
            rw [if_pos (by omega), if_pos a1, List.getElem?_take, if_pos a1] at hy
            exact hc.2 p u y hu hy
          · by_cases a2 : p < off + (cellsOf x).length
            · rw [if_pos (by omega)] at hu
              rw [if_pos a2, if_neg a1] at hy
              exact c3 _ u y hu hy
            · rw [if_neg (by omega)] at hu
              rw [if_neg a2, List.getElem?_drop, show off + (cellsOf x).length + (p - (off + (cellsOf x).length)) = p from by omega] at hy
              exact hc.2 p u y hu hy
        obtain ⟨c', g1, g2⟩ := fill_sound ps qs _ _ ys hnew (by simpa using hl) (fun j p q hj hq => hm (j + 1) p q (by simpa using hj) (by simpa using hq)) h
        refine ⟨c', ?_, g2⟩
        simp only [Instr.fill, hp]
        rw [if_neg (by rw [hsz]; simp; have := hc.1; omega)]
        rw [← g1, ← hfold]
      · cases h
  | [], _ :: _, _, _, _, _, hl, _, _ => by simp at hl
  | _ :: _, [], _, _, _, _, hl, _, _ => by simp at hl

/-- The places of a struct's fields. -/
def placesOf (tab : List (Nat × TRec)) : List (Nat × Nat) → Option (List (Nat × Nat))
  | [] => some []
  | (off, ty) :: l =>
    match look tab ty, placesOf tab l with
    | some r, some ps => some ((off, r.size) :: ps)
    | _, _ => none

section ops
variable {C : Cx} {N d : Nat} {ty : TypeId} {pos : String} {af : Array Edge} {gd : Option (Nat × Bool)} {t : Nat → AV} {h : Nat → HB}

theorem run_places (w : World) : ∀ (fs : List Field) (ps : List (Nat × Nat)), placesOf C.tab (fs.map fun f => (f.offset, f.type)) = some ps →
    (fs.mapM fun (f : Field) => (do pure (f.offset, ← sizeOf f.type) : Sem (Nat × Nat))).run C.P w = .ok ps w
  | [], ps, h => by simp [placesOf] at h; subst h; simp
  | f :: fs, ps, h => by
    simp only [List.map_cons, placesOf] at h
    split at h
    · rename_i r ps' h1 h2
      simp only [Option.some.injEq] at h
      subst h
      have ih := run_places w fs ps' h2
      rw [List.mapM_cons]
      simp only [Sem.run_bind, run_sizeOf (C.ok _ r h1), Result.andThen_ok, Sem.run_pure, ih]
    · cases h

/-- A struct built. -/
theorem ex_build (T : TypeId) (parts : List (Nat × Operand)) (r : TRec) (fs ps : List (Nat × Nat)) (cs : List AV) (hT : look C.tab T = some r) (hk : r.kind = .struct fs) (hps : placesOf C.tab fs = some ps)
    (hf : fillA (ps[·]?) (r.zero.map ofV) (parts.map fun p => (p.1, evA t p.2)) = some cs) (hN : d < N) :
    ExOk C.P N ⟨some d, .build T parts.toArray, ty, pos, af, gd⟩ t h ⟨parts.flatMap fun p => opT p.2, [], some d, .agg cs, [], []⟩ :=
  ex_pure _ _ rfl hN fun F ρ a w _ hs _ => by
    obtain ⟨dd, inf, z0, hu, _, _, hkind, _⟩ := trec_spec (C.ok T r hT)
    obtain ⟨z, hz, hzc⟩ := run_zeroOf (C.ok T r hT) w
    rw [hk] at hkind
    cases dd with
    | struct fds =>
      simp only [kindOf, TK.struct.injEq] at hkind
      have hpl := run_places (C := C) w fds.toList ps (by rw [← hkind]; exact hps)
      have hc0 : CellsAt F ρ z.cells (r.zero.map ofV) := by
        rw [hzc]
        refine ⟨by simp, fun i v x hv hx => ?_⟩
        rw [List.getElem?_map] at hx
        simp only [List.getElem?_toArray] at hv
        rw [hv] at hx
        simp only [Option.map_some, Option.some.injEq] at hx
        exact hx ▸ ofV_sound F ρ v
      obtain ⟨c', f1, f2⟩ := fill_sound (place := (ps[·]?)) (parts.map fun p => (p.1, a.eval p.2)) (parts.map fun p => (p.1, evA t p.2)) z.cells _ cs hc0 (by simp) (fun i p q hp hq => by
        rw [List.getElem?_map] at hp hq
        cases hpi : parts[i]? with
        | none => rw [hpi] at hp; cases hp
        | some o =>
          rw [hpi] at hp hq
          simp only [Option.map_some, Option.some.injEq] at hp hq
          subst hp; subst hq
          exact ⟨rfl, evA_sound hs fun j hj => List.mem_flatMap.2 ⟨o, List.mem_of_getElem? hpi, hj⟩⟩) hf
      refine ⟨.agg c', ?_, ?_⟩
      · have hpa : (fds.mapM fun (f : Field) => (do pure (f.offset, ← sizeOf f.type) : Sem (Nat × Nat))).run C.P w = .ok ps.toArray w := by
          rw [Array.mapM_eq_mapM_toList, Sem.run_map, hpl]; rfl
        simp only [execOp, Instr.build, Sem.run_bind, hz, Result.andThen_ok, run_underlying hu, hpa]
        have hpe : (fun (i : Nat) => ps.toArray[i]?) = (fun (i : Nat) => ps[i]?) := by funext i; simp
        have hpt : (parts.toArray.map fun (x : Nat × Operand) => (x.1, a.eval x.2)).toList = parts.map fun p => (p.1, a.eval p.2) := by simp
        rw [hpe, hpt, f1]
        rfl
      · have := M.agg (F := F) ρ c'.toList cs (by simpa using f2.1) (fun i v x hv hx => f2.2 i v x (by simpa using hv) hx)
        simpa using this
    | _ => simp [kindOf] at hkind

/-- Parts laid row by row. -/
theorem fill_rows {F : Still} {ρ : Places} {k : Nat} : ∀ (ps : List (Nat × Value)) (qs : List AV) (n0 : Nat) (c : Array Value), ps.length = qs.length → (∀ (i : Nat) p, ps[i]? = some p → p.1 = n0 + i) →
    (∀ (i : Nat) p q, ps[i]? = some p → qs[i]? = some q → M F ρ p.2 q ∧ (cellsOf q).length = k ∧ (cellsOf q).all cellLike = true) → (n0 + qs.length) * k ≤ c.size →
    ∃ c', Instr.fill (fun i => some (i * k, k)) c ps = some c' ∧ c'.size = c.size ∧ (∀ p, p < n0 * k → c'[p]? = c[p]?) ∧
      ∀ (i j : Nat) q x v, qs[i]? = some q → (cellsOf q)[j]? = some x → c'[(n0 + i) * k + j]? = some v → M F ρ v x
  | [], [], n0, c, _, _, _, _ => ⟨c, rfl, rfl, fun _ _ => rfl, fun i j q x v h => by cases i <;> cases h⟩
  | (i0, v) :: ps, q :: qs, n0, c, hl, hn, hm, hs => by
    have e0 : i0 = n0 := by have := hn 0 (i0, v) rfl; simpa using this
    subst e0
    obtain ⟨m1, m2, m3⟩ := hm 0 (i0, v) q rfl rfl
    have m1 : M F ρ v q := m1
    obtain ⟨c1, c2, c3⟩ := M.cells m1 m3
    have hsz : v.cells.toList.length = k := by rw [c1, m2]
    have hsz2 : v.cells.size = k := by rw [← Array.length_toList]; exact hsz
    have hrow : i0 * k + k ≤ c.size := by
      have : (i0 + 1) * k ≤ (i0 + (q :: qs).length) * k := Nat.mul_le_mul_right _ (by simp)
      rw [Nat.add_mul, Nat.one_mul] at this; omega
    obtain ⟨f1, f2⟩ := foldl_put (i0 * k) v.cells.toList 0 c
    have hfold : v.cells.zipIdx.foldl (fun cs (x : Value × Nat) => cs.setIfInBounds (i0 * k + x.2) x.1) c = (v.cells.toList.zipIdx 0).foldl (fun cs (x : Value × Nat) => cs.setIfInBounds (i0 * k + x.2) x.1) c := by
      rw [← Array.foldl_toList, Array.toList_zipIdx]
    obtain ⟨c', g1, g2, g3, g4⟩ := fill_rows ps qs (i0 + 1) _ (by simpa using hl) (fun i p hp => by have := hn (i + 1) p (by simpa using hp); omega) (fun i p q' hp hq => hm (i + 1) p q' (by simpa using hp) (by simpa using hq))
      (show (i0 + 1 + qs.length) * k ≤ ((v.cells.toList.zipIdx 0).foldl (fun cs (x : Value × Nat) => cs.setIfInBounds (i0 * k + x.2) x.1) c).size from by rw [f1]; rw [show i0 + 1 + qs.length = i0 + (q :: qs).length from by simp; omega]; exact hs)
    refine ⟨c', ?_, by rw [g2, f1], fun p hp => ?_, fun i j q' x u hq hx hu => ?_⟩
    · simp only [Instr.fill]
      rw [if_neg (by rw [hsz2]; simp; omega), ← g1, ← hfold]
    · rw [g3 p (by rw [Nat.add_mul]; omega), f2 p (by omega)]
      rw [if_neg (by omega)]
    · cases i with
      | zero =>
        simp only [List.getElem?_cons_zero, Option.some.injEq] at hq
        subst hq
        have hj : j < k := by rw [← m2]; exact (List.getElem?_eq_some_iff.1 hx).1
        rw [Nat.add_zero, g3 _ (by rw [Nat.add_mul]; omega), f2 _ (by omega), if_pos (by omega)] at hu
        rw [show i0 * k + j - (i0 * k + 0) = j from by omega] at hu
        exact c3 j u x hu hx
      | succ i =>
        exact g4 i j q' x u (by simpa using hq) hx (by rw [show i0 + 1 + i = i0 + (i + 1) from by omega]; exact hu)
  | [], _ :: _, _, _, hl, _, _, _ => by simp at hl
  | _ :: _, [], _, _, hl, _, _, _ => by simp at hl

/-- The parts 0, 1, .. in their order. -/
def inOrder : Nat → List (Nat × Operand) → Bool
  | _, [] => true
  | n, p :: l => p.1 == n && inOrder (n + 1) l

theorem inOrder_spec : ∀ (l : List (Nat × Operand)) (n : Nat), inOrder n l = true → ∀ (i : Nat) p, l[i]? = some p → p.1 = n + i
  | [], n, _, i, p, h => by cases i <;> cases h
  | q :: l, n, h, i, p, hi => by
    simp only [inOrder, Bool.and_eq_true, beq_iff_eq] at h
    cases i with
    | zero => simp at hi; subst hi; simpa using h.1
    | succ i => have := inOrder_spec l (n + 1) h.2 i p (by simpa using hi); omega

theorem run_buildSlice {T e len : Nat} {parts : List (Nat × Operand)} {r re : TRec} {rows : List (List AV)} (hT : look C.tab T = some r) (hk : r.kind = .slice e) (hE : look C.tab e = some re)
    (ho : inOrder 0 parts = true) (hl : parts.length = len) (hrows : rows = parts.map fun p => cellsOf (evA t p.2)) (hz : rows.all (fun row => row.length == re.size && row.all cellLike) = true) (hsm : len * re.size ≤ 16777216)
    {F : Still} {ρ : Places} {a : Act} {w : World} (hs : ∀ j, j ∈ parts.flatMap (fun p => opT p.2) → M F ρ (a.tmps.getD j undef) (t j)) :
    ∃ c, (Instr.buildSlice T len (parts.toArray.map fun (x : Nat × Operand) => (x.1, a.eval x.2))).run C.P w = .ok (.slice (some ⟨w.heap.size, 0, none⟩) len len) (w.alloc (.cells c e)) ∧ c.size = len * re.size ∧ RowsAt F ρ c re.size rows := by
  have hu := slice_spec (C.ok T r hT) hk
  obtain ⟨z, hzr, hzc⟩ := run_zeroOf (C.ok e re hE) w
  let c0 : Array Value := (Array.range (len * re.size)).map ((if len * re.size = 0 then #[] else z.cells)[· % (if len * re.size = 0 then #[] else z.cells).size]!)
  have hc0 : c0.size = len * re.size := by simp [c0]
  have hall : ∀ (i : Nat) q, (parts.map fun p => evA t p.2)[i]? = some q → (cellsOf q).length = re.size ∧ (cellsOf q).all cellLike = true := by
    intro i q hq
    have : rows[i]? = some (cellsOf q) := by
      rw [List.getElem?_map] at hq
      rw [hrows, List.getElem?_map]
      cases hpi : parts[i]? with
      | none => rw [hpi] at hq; cases hq
      | some o => rw [hpi] at hq; simp only [Option.map_some, Option.some.injEq] at hq ⊢; rw [hq]
    have := List.all_eq_true.1 hz _ (List.mem_of_getElem? this)
    simpa using this
  obtain ⟨c', g1, g2, g3, g4⟩ := fill_rows (F := F) (ρ := ρ) (k := re.size) (parts.map fun p => (p.1, a.eval p.2)) (parts.map fun p => evA t p.2) 0 c0 (by simp) (fun i p hp => by
      rw [List.getElem?_map] at hp
      cases hpi : parts[i]? with
      | none => rw [hpi] at hp; cases hp
      | some o => rw [hpi] at hp; simp only [Option.map_some, Option.some.injEq] at hp; subst hp; exact inOrder_spec _ _ ho i o hpi) (fun i p q hp hq => by
      refine ⟨?_, hall i q hq⟩
      rw [List.getElem?_map] at hp hq
      cases hpi : parts[i]? with
      | none => rw [hpi] at hp; cases hp
      | some o =>
        rw [hpi] at hp hq
        simp only [Option.map_some, Option.some.injEq] at hp hq
        subst hp; subst hq
        exact evA_sound hs fun j hj => List.mem_flatMap.2 ⟨o, List.mem_of_getElem? hpi, hj⟩) (by rw [hc0]; simp [hl])
  refine ⟨c', ?_, by rw [g2, hc0], ?_, ?_⟩
  · unfold Instr.buildSlice
    have hpt : (parts.toArray.map fun (x : Nat × Operand) => (x.1, a.eval x.2)).toList = parts.map fun p => (p.1, a.eval p.2) := by simp
    simp only [Sem.run_bind, run_underlying hu, Result.andThen_ok, run_sizeOf (C.ok e re hE)]
    rw [if_neg (by omega)]
    by_cases h0 : len * re.size = 0
    · have e0 : (if len * re.size = 0 then #[] else z.cells) = #[] := if_pos h0
      have g := g1
      simp only [c0, e0] at g
      rw [if_pos h0]
      simp only [Sem.run_bind, Sem.run_pure, Result.andThen_ok, hpt, g]
      rfl
    · have e0 : (if len * re.size = 0 then #[] else z.cells) = z.cells := if_neg h0
      have g := g1
      simp only [c0, e0] at g
      rw [if_neg h0]
      simp only [Sem.run_bind, Sem.run_pure, Result.andThen_ok, hzr, hpt, g]
      rfl
  · intro row hrow
    have := List.all_eq_true.1 hz row hrow
    simp only [Bool.and_eq_true, beq_iff_eq] at this
    exact this.1
  · intro i j row x v hi hj hv
    rw [hrows] at hi
    rw [List.getElem?_map] at hi
    cases hpi : parts[i]? with
    | none => rw [hpi] at hi; cases hi
    | some o =>
      rw [hpi] at hi
      simp only [Option.map_some, Option.some.injEq] at hi
      subst hi
      exact g4 i j (evA t o.2) x v (by rw [List.getElem?_map, hpi]; rfl) hj (by rw [Nat.zero_add]; exact hv)

theorem ex_buildSlice (T e len : Nat) (parts : List (Nat × Operand)) (m : Nat) (r re : TRec) (rows : List (List AV)) (hT : look C.tab T = some r) (hk : r.kind = .slice e) (hE : look C.tab e = some re)
    (ho : inOrder 0 parts = true) (hl : parts.length = len) (hrows : (parts.map fun p => cellsOf (evA t p.2)) = rows) (hz : rows.all (fun row => row.length == re.size && row.all cellLike) = true) (hsm : len * re.size ≤ 16777216) (hN : d < N) :
    ExOk C.P N ⟨some d, .buildSlice T len parts.toArray, ty, pos, af, gd⟩ t h ⟨parts.flatMap fun p => opT p.2, [], some d, .os m 0 len, [(m, .own true re.size rows)], [m]⟩ :=
  ex_new _ _ m true _ len _ rfl hN (by rw [← hrows]; simp; omega) (by rw [← hrows]; simp; omega) fun F ρ a w hm => by
    obtain ⟨c, h1, h2, h3⟩ := run_buildSlice hT hk hE ho hl hrows.symm hz hsm (w := w) hm
    refine ⟨.slice (some ⟨w.heap.size, 0, none⟩) len len, c, e, ?_, h2, h3, fun ρ' hρ' _ => ?_⟩
    · simp only [execOp, Sem.run_bind, h1, Result.andThen_ok, Sem.run_pure]
    · have := M.os (F := F) ρ' m w.heap.size re.size len 0 len ⟨w.heap.size, 0, none⟩ hρ' (by omega) (fun _ => by simp)
      simpa using this

/-- An operation that makes one block, which nobody will write to. -/
theorem ex_newfz {P : Program} {o : Oper} {x : AV} (rt : List Nat) (hd : o.dst = some d) (hN : d < N)
    (hrun : ∀ F ρ (a : Act) (w : World), (∀ b o', F b = some o' → w.heap[b]? = some o') → (∀ j, j ∈ rt → M F ρ (a.tmps.getD j undef) (t j)) → ∃ u ob w1, (execOp a.eval o).run P w = .ok (.value u) (w1.alloc ob) ∧ (w1 = w ∨ w1 = w.drew) ∧
      M (fun b => if b = w.heap.size then some ob else F b) ρ u x) :
    ExOk P N o t h ⟨rt, [], some d, x, [], []⟩ := by
  intro B A t' h' a w Q K hBN g hrt hrh _ hK
  obtain ⟨g1, g2, F, ρ, hp, g4⟩ := g
  obtain ⟨u, ob, w1, hr, hw1, hM⟩ := hrun F ρ a w hp.agree (fun j hj => (hrt j hj) ▸ g4 j)
  have hFn : F w.heap.size = none := by
    cases hF : F w.heap.size with
    | none => rfl
    | some o => have := (Array.getElem?_eq_some_iff.1 (hp.agree _ o hF)).1; omega
  have hle : F.le (fun b => if b = w.heap.size then some ob else F b) := by
    intro b o hb
    by_cases hbn : b = w.heap.size
    · rw [hbn, hFn] at hb; cases hb
    · simpa [hbn] using hb
  have hheap : w1.heap = w.heap := by rcases hw1 with rfl | rfl <;> rfl
  have hsz1 : w1.heap.size = w.heap.size := by rw [hheap]
  have hkept : B.kept (w1.alloc ob) := by
    rcases hw1 with rfl | rfl
    · exact hp.kept.alloc ob
    · exact hp.kept.drew.alloc ob
  have hold : ∀ b, b < w.heap.size → (w1.alloc ob).heap[b]? = w.heap[b]? := fun b hb => by
    rw [Below.heap_alloc _ _ _ (by rw [hsz1]; exact hb), hheap]
  have hblk : ∀ n ex k rows, h' n = .own ex k rows → ∀ b c, ρ n = some (some (b, c)) → b < w.heap.size := by
    intro n ex k rows hh b c hρ
    have h1 := hp.own n
    rw [hh] at h1
    rcases h1 with ⟨h2, _⟩ | ⟨b', cap, c', e, h2, h3, _⟩
    · rw [hρ] at h2; cases h2
    · rw [hρ] at h2; simp only [Option.some.injEq, Prod.mk.injEq] at h2
      rw [h2.1]; exact (Array.getElem?_eq_some_iff.1 h3).1
  unfold Oper.wp
  rw [hr, Oper.upon_value]
  refine hK _ _ ⟨by cases ho : o.dst <;> simpa [Act.put] using g1, by rw [put_size]; exact g2, (fun b => if b = w.heap.size then some ob else F b), ρ, ?_, fun i => ?_⟩
  · refine { kept := hkept, agree := fun b o hb => ?_, grow := fun b o hb => hle b o (hp.grow b o hb), fresh := fun b hb => ?_, names := hp.names, dom := fun n hn => .inl (hp.dom n hn), own := fun n => ?_, new := fun n b c ho hn => ?_, sep := hp.sep }
    · by_cases hbn : b = w.heap.size
      · subst hbn
        simp only [if_true, Option.some.injEq] at hb
        rw [← hb, ← hsz1]; exact heap_alloc_new w1 ob
      · simp only [hbn, if_false] at hb
        rw [hold b (Array.getElem?_eq_some_iff.1 (hp.agree b o hb)).1]; exact hp.agree b o hb
    · by_cases hbn : b = w.heap.size
      · exact .inr (.inl (by rw [hbn]; exact hp.kept.size))
      · simp only [hbn, if_false] at hb; exact hp.fresh b hb
    · have h1 := hp.own n
      show OwnAt _ ρ _ n (h' n)
      cases hh : h' n with
      | dead => trivial
      | fz rows =>
        rw [hh] at h1
        rcases h1 with h1 | ⟨b, k, cap, c, e, fr, h1, h2, h3, h4, h5⟩
        · exact .inl h1
        · exact .inr ⟨b, k, cap, c, e, fr, h1, hle _ _ h2, h3, h4, h5.mono hle (Places.le_refl _)⟩
      | mp l =>
        rw [hh] at h1
        obtain ⟨b, es, clock, h1, h2, h3⟩ := h1
        exact ⟨b, es, clock, h1, by rw [hold b (Array.getElem?_eq_some_iff.1 h2).1]; exact h2, h3.mono hle (Places.le_refl _)⟩
      | own ex k rows =>
        rw [hh] at h1
        rcases h1 with h1 | ⟨b, cap, c, e, h1, h2, h3, h4, h5, h6⟩
        · exact .inl h1
        · exact .inr ⟨b, cap, c, e, h1, by rw [hold b (Array.getElem?_eq_some_iff.1 h2).1]; exact h2, h3, h4, h5, h6.mono hle (Places.le_refl _)⟩
    · have h2 := hp.new n b c ho hn
      refine ⟨?_, h2.2⟩
      cases hh : h' n with
      | own ex k rows =>
        have := hblk n ex k rows hh b c hn
        simp only [show ¬ b = w.heap.size from by omega, if_false]
        exact h2.1
      | dead => have ho : (h' n).isOwn = true := ho; rw [hh] at ho; cases ho
      | fz _ => have ho : (h' n).isOwn = true := ho; rw [hh] at ho; cases ho
      | mp l =>
        have := hp.blk ho hn
        simp only [show ¬ b = w.heap.size from by omega, if_false]
        exact h2.1
  · rw [hd, put_getD _ _ _ _ (by omega)]
    unfold Eff.t Eff.wT
    by_cases hi : d = i
    · subst hi; simpa using hM
    · simpa [hi] using (g4 i).mono hle (Places.le_refl ρ)

theorem RowsAt.pure {F : Still} {ρ : Places} {c : Array Value} {k : Nat} {rows : List (List AV)} (h : RowsAt F ρ c k rows) (hp : ∀ row, row ∈ rows → AV.pure.pureL row = true) : RowsAt F noPlaces c k rows :=
  ⟨h.1, fun i j row x v h1 h2 h3 => (h.2 i j row x v h1 h2 h3).moved _ (pureL_mem (hp row (List.mem_of_getElem? h1)) h2)⟩

/-- A literal slice that nobody will write to. -/
theorem ex_buildSlice_fz (T e len : Nat) (parts : List (Nat × Operand)) (r re : TRec) (rows : List (List AV)) (hT : look C.tab T = some r) (hk : r.kind = .slice e) (hE : look C.tab e = some re)
    (ho : inOrder 0 parts = true) (hl : parts.length = len) (hrows : (parts.map fun p => cellsOf (evA t p.2)) = rows) (hz : rows.all (fun row => row.length == re.size && row.all cellLike && AV.pure.pureL row) = true) (hsm : len * re.size ≤ 16777216) (hN : d < N) :
    ExOk C.P N ⟨some d, .buildSlice T len parts.toArray, ty, pos, af, gd⟩ t h ⟨parts.flatMap fun p => opT p.2, [], some d, .sl true rows, [], []⟩ :=
  ex_newfz _ rfl hN fun F ρ a w hag hm => by
    have hz1 : rows.all (fun row => row.length == re.size && row.all cellLike) = true := List.all_eq_true.2 fun row hr => by have := List.all_eq_true.1 hz row hr; simp only [Bool.and_eq_true] at this ⊢; exact this.1
    have hz2 : ∀ row, row ∈ rows → AV.pure.pureL row = true := fun row hr => by have := List.all_eq_true.1 hz row hr; simp only [Bool.and_eq_true] at this; exact this.2
    obtain ⟨c, h1, h2, h3⟩ := run_buildSlice hT hk hE ho hl hrows.symm hz1 hsm (w := w) hm
    refine ⟨.slice (some ⟨w.heap.size, 0, none⟩) len len, .cells c e, w, by simp only [execOp, Sem.run_bind, h1, Result.andThen_ok, Sem.run_pure], .inl rfl, ?_⟩
    have hlen : rows.length = len := by rw [← hrows]; simp [hl]
    have hF : F w.heap.size = none := by
      cases hF : F w.heap.size with
      | none => rfl
      | some o => have := (Array.getElem?_eq_some_iff.1 (hag _ o hF)).1; omega
    have h4 := h3.pure hz2
    have := M.sl (F := fun b => if b = w.heap.size then some (.cells c e) else F b) ρ w.heap.size 0 len c e (0, 0) true re.size rows (by simp) (by omega) (fun _ => hlen.symm) (by rw [hlen, h2]; omega) h3.1
      (fun i j row x v hi hj hv => by
        have hmm := h4.2 i j row x v hi hj (by simpa using hv)
        exact hmm.mono (fun b o hb => by
          by_cases hbn : b = w.heap.size
          · rw [hbn, hF] at hb; cases hb
          · simpa [hbn] using hb) (Places.le_refl _))
    rw [hlen] at this
    exact this
theorem ex_buildSlice_fz1 (T e : Nat) (x : Operand) (r re : TRec) (y : AV) (hx : evA t x = y) (hT : look C.tab T = some r) (hk : r.kind = .slice e) (hE : look C.tab e = some re)
    (hc : (cellsOf y).all cellLike = true ∧ AV.pure.pureL (cellsOf y) = true) (hs : (cellsOf y).length = re.size) (hsm : 1 * re.size ≤ 16777216) (hN : d < N) :
    ExOk C.P N ⟨some d, .buildSlice T 1 #[(0, x)], ty, pos, af, gd⟩ t h ⟨[(0, x)].flatMap fun p => opT p.2, [], some d, .sl true [cellsOf y], [], []⟩ :=
  ex_buildSlice_fz T e 1 [(0, x)] r re [cellsOf y] hT hk hE rfl rfl (by simp [hx]) (by simp [hc.1, hc.2, hs]) hsm hN
theorem ex_buildSlice_fz1a (T e : Nat) (x : Operand) (r re : TRec) (row : List AV) (hx : evA t x = .agg row) (hT : look C.tab T = some r) (hk : r.kind = .slice e) (hE : look C.tab e = some re)
    (hc : row.all cellLike = true ∧ AV.pure.pureL row = true) (hs : row.length = re.size) (hsm : 1 * re.size ≤ 16777216) (hN : d < N) :
    ExOk C.P N ⟨some d, .buildSlice T 1 #[(0, x)], ty, pos, af, gd⟩ t h ⟨[(0, x)].flatMap fun p => opT p.2, [], some d, .sl true [row], [], []⟩ :=
  ex_buildSlice_fz1 T e x r re (.agg row) hx hT hk hE hc hs hsm hN
end ops
end Go.Ab
