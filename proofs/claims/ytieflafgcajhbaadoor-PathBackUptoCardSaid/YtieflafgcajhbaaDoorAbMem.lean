/- The abstract layer, 5: types as a table; loads, stores, new memory. -/
import Derived.Test.YtieflafgcajhbaaDoorAbOps
import Derived.Laws.CopyRow
import Derived.Laws.Tables
import Derived.Laws.Entries
set_option linter.unusedSimpArgs false
namespace Go.Ab
open Go.RowKit

/-- The kind of a type, as far as it is wanted here. -/
inductive TK where
  | int (k : IntKind)
  | bool
  | string
  | slice (e : Nat)
  | pointer (e : Nat)
  | array (n e : Nat)
  | struct (fs : List (Nat × Nat))
  | map (k e : Nat)
  | other

structure TRec where
  kind : TK
  agg : Bool
  size : Nat
  bytes : Nat
  zero : List Value

def kindOf : TypeDesc → TK
  | .int k => .int k
  | .bool => .bool
  | .string => .string
  | .slice e => .slice e
  | .pointer e => .pointer e
  | .array n e => .array n e
  | .struct fs => .struct (fs.toList.map fun f => (f.offset, f.type))
  | .map k e => .map k e
  | _ => .other

def isAggD : TypeDesc → Bool
  | .struct _ | .array _ _ => true
  | _ => false

def trec (P : Program) (T : Nat) : Option TRec :=
  match P.underlying T, P.info? T with
  | some d, some i => i.zero.map fun z => { kind := kindOf d, agg := isAggD d, size := i.size, bytes := i.bytes, zero := z.cells.toList }
  | _, _ => none

theorem trec_spec {P : Program} {T : Nat} {r : TRec} (h : trec P T = some r) : ∃ d i z, P.underlying T = some d ∧ P.info? T = some i ∧ i.zero = some z ∧ r.kind = kindOf d ∧ r.agg = isAggD d ∧ i.size = r.size ∧ i.bytes = r.bytes ∧ z.cells = r.zero.toArray := by
  unfold trec at h
  split at h
  · rename_i d i hd hi
    cases hz : i.zero with
    | none => simp [hz] at h
    | some z =>
      simp only [hz, Option.map_some, Option.some.injEq] at h
      subst h
      exact ⟨d, i, z, hd, hi, hz, rfl, rfl, rfl, rfl, by simp⟩
  · cases h

theorem run_isAgg {P : Program} {T : Nat} {r : TRec} (h : trec P T = some r) (w : World) : (isAgg T).run P w = .ok r.agg w := by
  obtain ⟨d, i, z, hd, _, _, _, ha, _⟩ := trec_spec h
  unfold isAgg
  simp only [Sem.run_bind, run_underlying hd, Result.andThen_ok]
  rw [ha]
  cases d <;> rfl
theorem run_sizeOf {P : Program} {T : Nat} {r : TRec} (h : trec P T = some r) (w : World) : (sizeOf T).run P w = .ok r.size w := by
  obtain ⟨d, i, z, _, hi, _, _, _, hs, _⟩ := trec_spec h
  simp [sizeOf, typeInfo, hi, hs]
theorem run_zeroOf {P : Program} {T : Nat} {r : TRec} (h : trec P T = some r) (w : World) : ∃ z, (zeroValue T).run P w = .ok z w ∧ z.cells = r.zero.toArray := by
  obtain ⟨d, i, z, _, hi, hz, _, _, _, _, hc⟩ := trec_spec h
  exact ⟨z, by simp [zeroValue, typeInfo, hi, hz], hc⟩

/-- What stands from cell j on in a row, at a type. -/
def cut (r : TRec) (row : List AV) (j : Nat) : Option AV :=
  if r.agg then (if j + r.size ≤ row.length then some (.agg ((row.drop j).take r.size)) else none) else row[j]?

theorem getElem?_drop_take {α : Type} (l : List α) (a n i : Nat) (h : i < n) : ((l.drop a).take n)[i]? = l[a + i]? := by
  rw [List.getElem?_take, if_pos h, List.getElem?_drop]

/-- A load out of a block whose cells are known. -/
theorem run_load {P : Program} {F : Still} {ρ : Places} {w : World} {b : Nat} {c : Array Value} {e : TypeId} {fr : Nat × Nat} (hb : w.heap[b]? = some (.cells c e fr)) {T : Nat} {r : TRec} (hT : trec P T = some r)
    {base j : Nat} {row : List AV} {x : AV} (hs : base + row.length ≤ c.size) (hrow : ∀ (j : Nat) x v, row[j]? = some x → c[base + j]? = some v → M F ρ v x) (hx : cut r row j = some x) :
    ∃ v, (loadVar T ⟨b, base + j, none⟩).run P w = .ok v w ∧ M F ρ v x := by
  have hcell : ∀ i, w.cell? ⟨b, i, none⟩ = c[i]? := fun i => by simp [World.cell?, hb]
  unfold cut at hx
  unfold loadVar
  cases hagg : r.agg with
  | false =>
    simp only [hagg, Bool.false_eq_true, if_false] at hx
    have hj : j < row.length := (List.getElem?_eq_some_iff.1 hx).1
    have hv : c[base + j]? = some (c[base + j]'(by omega)) := Array.getElem?_eq_getElem (by omega)
    refine ⟨_, ?_, hrow j x _ hx hv⟩
    simp only [Sem.run_bind, run_isAgg hT, hagg, Result.andThen_ok, Bool.false_eq_true, if_false]
    simp [load, Sem.run, hcell, hv]
  | true =>
    simp only [hagg, if_true] at hx
    split at hx
    · rename_i hle
      simp only [Option.some.injEq] at hx
      subst hx
      let cs := (c.toList.drop (base + j)).take r.size
      have hlen : cs.length = r.size := by simp [cs]; omega
      have hload := run_loadCells_list (P := P) w ⟨b, base + j, none⟩ cs (fun i v hi => by
        have hil : i < r.size := by have := (List.getElem?_eq_some_iff.1 hi).1; omega
        rw [getElem?_drop_take _ _ _ _ hil] at hi
        have : (⟨b, base + j, none⟩ : Addr).add i = ⟨b, base + j + i, none⟩ := by unfold Addr.add; split <;> simp_all
        rw [this, hcell]; simpa using hi)
      rw [hlen] at hload
      refine ⟨.agg cs.toArray, ?_, .agg _ cs _ (by rw [hlen]; simp; omega) ?_⟩
      · simp only [Sem.run_bind, run_isAgg hT, hagg, Result.andThen_ok, if_true, run_sizeOf hT, hload]
        rfl
      · intro i v y hv hy
        have hil : i < r.size := by have := (List.getElem?_eq_some_iff.1 hv).1; omega
        rw [getElem?_drop_take _ _ _ _ hil] at hv hy
        exact hrow (j + i) y v hy (by rw [← Nat.add_assoc]; simpa using hv)
    · cases hx

/-- A value that may be a cell. -/
def cellLike : AV → Bool
  | .agg _ | .tup _ | .junk => false
  | _ => true

theorem M.oneCell {F : Still} {ρ : Places} {v : Value} {x : AV} (h : M F ρ v x) (hx : cellLike x = true) : v.oneCell' = true := by
  cases h with
  | v _ x h => cases v <;> simp_all [single, Value.oneCell']
  | _ => first | rfl | (simp [cellLike] at hx)

/-- The cells of a value. -/
def cellsOf : AV → List AV
  | .agg xs => xs
  | x => [x]

theorem M.cells {F : Still} {ρ : Places} {v : Value} {x : AV} (h : M F ρ v x) (hx : (cellsOf x).all cellLike = true) : v.cells.toList.length = (cellsOf x).length ∧ (∀ u, u ∈ v.cells.toList → u.oneCell' = true) ∧
    ∀ (i : Nat) u y, v.cells.toList[i]? = some u → (cellsOf x)[i]? = some y → M F ρ u y := by
  cases hxa : x with
  | agg xs =>
    subst hxa
    obtain ⟨vs, rfl, hl, hm⟩ := h.agg_inv
    refine ⟨by simpa [Value.cells, cellsOf] using hl, ?_, by simpa [Value.cells, cellsOf] using hm⟩
    intro u hu
    simp only [Value.cells] at hu
    obtain ⟨i, hi⟩ := List.mem_iff_getElem?.1 hu
    have hil : i < xs.length := by have := (List.getElem?_eq_some_iff.1 hi).1; omega
    have hy : xs[i]? = some xs[i] := List.getElem?_eq_getElem hil
    exact (hm i u _ hi hy).oneCell (List.all_eq_true.1 hx _ (List.mem_of_getElem? hy))
  | _ =>
    all_goals
      have he : cellsOf x = [x] := by rw [hxa]; rfl
      have hc : cellLike x = true := by rw [he] at hx; simpa using hx
      have h1 := h.oneCell hc
      have hvc : v.cells = #[v] := by cases v <;> simp_all [Value.cells, Value.oneCell']
      rw [← hxa, hvc, he]
      refine ⟨rfl, by simpa using h1, ?_⟩
      intro i u y hu hy
      cases i with
      | zero => simp at hu hy; subst hu; subst hy; exact h
      | succ i => simp at hu

/-- One write: the block of a name (or of the name that goes), or a new one. m: the name behind it · pl: its place · ks: a name of which nothing is told any more · tb: the block that may have been written. -/
theorem Hp.write {B : Base} {A : Nat → Prop} {h : Nat → HB} {F : Still} {ρ : Places} {w w' : World} (hp : Hp B A h F ρ w) (m : Nat) (pl : Option (Nat × Nat × Nat)) (X : HB) (ks tb : Option Nat)
    (hm : ρ m = none ∨ ρ m = some pl) (kept : B.kept w') (ht : ∀ b, tb = some b → ∃ n0 c, (n0 = m ∨ ks = some n0) ∧ (h n0).isOwn = true ∧ ρ n0 = some (some (b, c)))
    (hw : ∀ b, b < w.heap.size → tb ≠ some b → w'.heap[b]? = w.heap[b]?) (hpl : ∀ b c, pl = some (b, c) → tb = some b ∨ w.heap.size ≤ b)
    (own : OwnAt F (fun n => if n = m then some pl else ρ n) w' m X) :
    Hp B (fun n => A n ∨ n = m) (fun n => if n = m then X else if ks = some n then .dead else h n) F (fun n => if n = m then some pl else ρ n) w' := by
  have hle : ρ.le (fun n => if n = m then some pl else ρ n) := by
    intro n c hn
    by_cases hnm : n = m
    · subst hnm
      rcases hm with hm | hm
      · rw [hm] at hn; cases hn
      · rw [hm] at hn; simpa using hn
    · simpa [hnm] using hn
  have hFlt : ∀ b o, F b = some o → b < w.heap.size := fun b o hb => (Array.getElem?_eq_some_iff.1 (hp.agree b o hb)).1
  have hFt : ∀ b, tb = some b → F b = none := by
    intro b hb
    obtain ⟨n0, c, _, h2, h3⟩ := ht b hb
    exact (hp.new n0 b c h2 h3).1
  have hblk : ∀ n b c, (h n).isOwn = true → ρ n = some (some (b, c)) → b < w.heap.size := by
    intro n b c ho hn
    have := hp.own n
    cases hh : h n with
    | own ex k rows =>
      rw [hh] at this
      rcases this with ⟨h1, _⟩ | ⟨b', cap, cc, e, h1, h2, _⟩
      · rw [hn] at h1; cases h1
      · rw [hn] at h1; simp only [Option.some.injEq, Prod.mk.injEq] at h1
        rw [h1.1]; exact (Array.getElem?_eq_some_iff.1 h2).1
    | dead => rw [hh] at ho; cases ho
    | fz rows => rw [hh] at ho; cases ho
    | mp l =>
      rw [hh] at this
      obtain ⟨b', es, clock, h1, h2, _⟩ := this
      rw [hn] at h1; simp only [Option.some.injEq, Prod.mk.injEq] at h1
      rw [h1.1]; exact (Array.getElem?_eq_some_iff.1 h2).1
  have hother : ∀ n b c, n ≠ m → ks ≠ some n → (h n).isOwn = true → ρ n = some (some (b, c)) → tb ≠ some b := by
    intro n b c h1 h2 h3 h4 h5
    obtain ⟨n0, c', hn0, h6, h7⟩ := ht b h5
    have hne : n ≠ n0 := by
      rintro rfl
      rcases hn0 with hn0 | hn0
      · exact h1 hn0
      · exact h2 hn0
    exact hp.sep n n0 b c c' hne h3 h6 h4 h7
  refine ⟨kept, ?_, hp.grow, hp.fresh, ?_, ?_, ?_, ?_, ?_⟩
  · intro b o hb
    rw [hw b (hFlt b o hb) (fun e => by rw [hFt b e] at hb; cases hb)]
    exact hp.agree b o hb
  · exact fun n c hn => hle n c (hp.names n c hn)
  · intro n hn
    by_cases hnm : n = m
    · exact .inr hnm
    · simp only [hnm, if_false] at hn; exact .inl (hp.dom n hn)
  · intro n
    by_cases hnm : n = m
    · subst hnm; simpa using own
    · simp only [hnm, if_false]
      by_cases hk : ks = some n
      · simp [hk, OwnAt]
      · simp only [hk, if_false]
        have h1 := hp.own n
        cases hh : h n with
        | dead => trivial
        | fz rows =>
          rw [hh] at h1
          simpa [OwnAt, hnm] using h1
        | mp l =>
          rw [hh] at h1
          obtain ⟨b, es, clock, h1, h2, h3⟩ := h1
          refine ⟨b, es, clock, by simpa [hnm] using h1, ?_, h3.mono (Still.le_refl F) hle⟩
          rw [hw b (Array.getElem?_eq_some_iff.1 h2).1 (hother n b _ hnm hk (by rw [hh]; rfl) h1)]
          exact h2
        | own ex' k' rows' =>
          rw [hh] at h1
          rcases h1 with ⟨h1, h2⟩ | ⟨b, cap, c, e, h1, h2, h3, h4, h5, h6⟩
          · exact .inl ⟨by simpa [hnm] using h1, h2⟩
          · refine .inr ⟨b, cap, c, e, by simpa [hnm] using h1, ?_, h3, h4, h5, h6.mono (Still.le_refl F) hle⟩
            rw [hw b (Array.getElem?_eq_some_iff.1 h2).1 (hother n b _ hnm hk (by rw [hh]; rfl) h1)]
            exact h2
  · intro n b c ho hn
    by_cases hnm : n = m
    · subst hnm
      simp only [if_true, Option.some.injEq] at hn
      rcases hpl b c hn with h1 | h1
      · obtain ⟨n0, c', _, h6, h7⟩ := ht b h1
        exact hp.new n0 b c' h6 h7
      · refine ⟨?_, .inl (Nat.le_trans hp.kept.size h1)⟩
        cases hF : F b with
        | none => rfl
        | some o => have := hFlt b o hF; omega
    · simp only [hnm, if_false] at ho hn
      by_cases hk : ks = some n
      · simp [hk, HB.isOwn] at ho
      · simp only [hk, if_false] at ho
        exact hp.new n b c ho hn
  · have one : ∀ n b c c', n ≠ m → (if n = m then X else if ks = some n then .dead else h n).isOwn = true → pl = some (b, c) → ρ n = some (some (b, c')) → False := by
      intro n b c c' hnm ho hpb hn
      simp only [hnm, if_false] at ho
      by_cases hk : ks = some n
      · simp [hk, HB.isOwn] at ho
      · simp only [hk, if_false] at ho
        rcases hpl b c hpb with h1 | h1
        · exact hother n b c' hnm hk ho hn h1
        · have := hblk n b c' ho hn; omega
    intro n n' b c c' hne ho ho' hn hn'
    by_cases hnm : n = m
    · subst hnm
      simp only [if_true, Option.some.injEq] at hn
      have hnm' : n' ≠ n := Ne.symm hne
      simp only [hnm', if_false] at hn'
      exact one n' b c c' hnm' (by simpa [hnm'] using ho') hn hn'
    · by_cases hnm' : n' = m
      · subst hnm'
        simp only [if_true, Option.some.injEq] at hn'
        simp only [hnm, if_false] at hn
        exact one n b c' c hnm (by simpa [hnm] using ho) hn' hn
      · simp only [hnm, hnm', if_false] at ho ho' hn hn'
        by_cases hk : ks = some n
        · simp [hk, HB.isOwn] at ho
        · by_cases hk' : ks = some n'
          · simp [hk', HB.isOwn] at ho'
          · simp only [hk, hk', if_false] at ho ho'
            exact hp.sep n n' b c c' hne ho ho' hn hn'

/-- An operation with one write. -/
theorem ex_writeX {P : Program} {N : Nat} {o : Oper} {t : Nat → AV} {h : Nat → HB} {x : AV} (rt rh : List Nat) (m : Nat) (X : HB) (ks : List Nat) (fr : List Nat)
    (hN : ∀ d, o.dst = some d → d < N) (hfr : fr = [m] ∨ fr = []) (hks : ks.length ≤ 1)
    (hrun : ∀ B A h' F ρ (a : Act) (w : World), Hp B A h' F ρ w → (∀ j, j ∈ rt → M F ρ (a.tmps.getD j undef) (t j)) → (∀ n, n ∈ rh → h' n = h n) → (∀ n, n ∈ fr → ρ n = none) →
      ∃ v w' pl tb, (execOp a.eval o).run P w = .ok v w' ∧ (v = .skip ∧ o.dst = none ∨ ∃ u, v = .value u ∧ M F (fun n => if n = m then some pl else ρ n) u x) ∧
        (ρ m = none ∨ ρ m = some pl) ∧ B.kept w' ∧ (∀ b, tb = some b → ∃ n0 c, (n0 = m ∨ ks[0]? = some n0) ∧ (h' n0).isOwn = true ∧ ρ n0 = some (some (b, c))) ∧
        (∀ b, b < w.heap.size → tb ≠ some b → w'.heap[b]? = w.heap[b]?) ∧ (∀ b c, pl = some (b, c) → tb = some b ∨ w.heap.size ≤ b) ∧
        OwnAt F (fun n => if n = m then some pl else ρ n) w' m X ∧ (fr = [] → ρ m ≠ none)) :
    ExOk P N o t h ⟨rt, rh, o.dst, x, (m, X) :: ks.map fun n => (n, .dead), fr⟩ := by
  intro B A t' h' a w Q K hBN g hrt hrh hfrA hK
  obtain ⟨g1, g2, F, ρ, hp, g4⟩ := g
  have hnone : ∀ n, n ∈ fr → ρ n = none := fun n hn => by
    cases hρ : ρ n with
    | none => rfl
    | some c => exact absurd (hp.dom n (by rw [hρ]; simp)) (hfrA n hn)
  obtain ⟨v, w', pl, tb, hv, hres, c1, c2, c3, c4, c5, c6, c7⟩ := hrun B A h' F ρ a w hp (fun j hj => (hrt j hj) ▸ g4 j) (fun n hn => hrh n hn) hnone
  have hp' := hp.write m pl X ks[0]? tb c1 c2 c3 c4 c5 c6
  have hle : ρ.le (fun n => if n = m then some pl else ρ n) := by
    intro n c hn
    by_cases hnm : n = m
    · subst hnm
      rcases c1 with hm | hm
      · rw [hm] at hn; cases hn
      · rw [hm] at hn; simpa using hn
    · simpa [hnm] using hn
  have hH : (Eff.h ⟨rt, rh, o.dst, x, (m, X) :: ks.map fun n => (n, .dead), fr⟩ h') = fun n => if n = m then X else if ks[0]? = some n then .dead else h' n := by
    funext n
    unfold Eff.h Eff.wH
    simp only [findH]
    by_cases hnm : n = m
    · subst hnm; simp
    · simp only [show ¬ m = n from fun e => hnm e.symm, hnm, if_false]
      match ks, hks with
      | [], _ => simp [findH]
      | [q], _ =>
        simp only [List.map_cons, List.map_nil, findH, List.getElem?_cons_zero, Option.some.injEq]
        by_cases hq : q = n <;> simp [hq]
      | _ :: _ :: _, hl => simp at hl
  have hdom : ∀ n, (A n ∨ n = m) → A n ∨ n ∈ fr := by
    intro n hn
    rcases hn with hn | hn
    · exact .inl hn
    · rcases hfr with e | e
      · exact .inr (by rw [e, hn]; simp)
      · exact .inl (hn ▸ hp.dom m (c7 e))
  have hfin : ∀ a', a'.defers = [] → a'.tmps.size = B.N → (∀ i, M F (fun n => if n = m then some pl else ρ n) (a'.tmps.getD i undef) (Eff.t ⟨rt, rh, o.dst, x, (m, X) :: ks.map fun n => (n, .dead), fr⟩ t' i)) → K a' w' := by
    intro a' h1 h2 h3
    refine hK a' w' ⟨h1, h2, F, _, ?_, h3⟩
    rw [hH]
    exact hp'.weaken hdom
  unfold Oper.wp
  rw [hv]
  rcases hres with ⟨rfl, hd⟩ | ⟨u, rfl, hu⟩
  · rw [Oper.upon_skip]
    refine hfin _ (by simpa [hd, Act.put] using g1) (by rw [put_size]; exact g2) (fun i => ?_)
    simp only [hd, Act.put, Eff.t, Eff.wT, reduceCtorEq, if_false, Option.getD_none]
    exact (g4 i).mono (Still.le_refl F) hle
  · rw [Oper.upon_value]
    cases ho : o.dst with
    | none =>
      rw [ho] at hfin
      refine hfin _ (by simpa [Act.put] using g1) (by rw [put_size]; exact g2) (fun i => ?_)
      simp only [Act.put, Eff.t, Eff.wT, reduceCtorEq, if_false, Option.getD_none]
      exact (g4 i).mono (Still.le_refl F) hle
    | some d =>
      rw [ho] at hfin
      refine hfin _ (by simpa [Act.put] using g1) (by rw [put_size]; exact g2) (fun i => ?_)
      rw [put_getD _ _ _ _ (Nat.lt_of_lt_of_le (hN d ho) (by omega))]
      unfold Eff.t Eff.wT
      by_cases hi : d = i
      · subst hi; simpa using hu
      · simpa [hi] using (g4 i).mono (Still.le_refl F) hle

theorem ex_write {P : Program} {N : Nat} {o : Oper} {t : Nat → AV} {h : Nat → HB} {x : AV} (rt rh : List Nat) (m : Nat) (ex : Bool) (k : Nat) (rows : List (List AV)) (ks : List Nat) (fr : List Nat)
    (hN : ∀ d, o.dst = some d → d < N) (hfr : fr = [m] ∨ fr = []) (hks : ks.length ≤ 1)
    (hrun : ∀ B A h' F ρ (a : Act) (w : World), Hp B A h' F ρ w → (∀ j, j ∈ rt → M F ρ (a.tmps.getD j undef) (t j)) → (∀ n, n ∈ rh → h' n = h n) → (∀ n, n ∈ fr → ρ n = none) →
      ∃ v w' pl tb, (execOp a.eval o).run P w = .ok v w' ∧ (v = .skip ∧ o.dst = none ∨ ∃ u, v = .value u ∧ M F (fun n => if n = m then some pl else ρ n) u x) ∧
        (ρ m = none ∨ ρ m = some pl) ∧ B.kept w' ∧ (∀ b, tb = some b → ∃ n0 c, (n0 = m ∨ ks[0]? = some n0) ∧ (h' n0).isOwn = true ∧ ρ n0 = some (some (b, c))) ∧
        (∀ b, b < w.heap.size → tb ≠ some b → w'.heap[b]? = w.heap[b]?) ∧ (∀ b c, pl = some (b, c) → tb = some b ∨ w.heap.size ≤ b) ∧
        OwnAt F (fun n => if n = m then some pl else ρ n) w' m (.own ex k rows) ∧ (fr = [] → ρ m ≠ none)) :
    ExOk P N o t h ⟨rt, rh, o.dst, x, (m, .own ex k rows) :: ks.map fun n => (n, .dead), fr⟩ := ex_writeX rt rh m _ ks fr hN hfr hks hrun

end Go.Ab
