/- The abstract layer, 14: a law that holds of abstract values holds of what is handed in. -/
import Derived.Test.YtieflafgcajhbaaDoorAbTy
set_option linter.unusedSimpArgs false
set_option linter.unusedVariables false
namespace Go.Ab
open Go.RowKit Go.ChangeShapes

def TyV (tab : List (Nat × TRec)) (t : Nat) (y : AV) : Prop := match look tab t with
  | none => True
  | some r => if r.agg = true then ∃ n xs, y = .agg xs ∧ Ty tab n t xs else ∃ n, Ty tab n t [y]
def TyAll (tab : List (Nat × TRec)) : List Nat → List AV → Prop
  | [], ys => ys = []
  | t :: ts, ys => ∃ y l, ys = y :: l ∧ TyV tab t y ∧ TyAll tab ts l

section
variable {H : Type} {enc : TypeId × Value → H} {w : World} {sp : Nat → Bool} {held : Bool}

theorem value_M (C : Cx) {t : Nat} {v : Value} {d : DataW H} {ps : List MemPlace} {b0 : Nat} {rch : Reach} (hv : Value.okWide C.P w rch b0 t v) (h : DataW.Trod enc C.P w 0 sp held t v d ps)
    (hw : ∀ m, m ∈ d.weights C.P t → m ≤ 140737488355328) : ∃ y, M (still w) noPlaces v y ∧ TyV C.tab t y := by
  obtain ⟨n, h⟩ := h
  obtain ⟨xs, h1, h2⟩ := trod_M C n t _ _ h hw
  cases hl : look C.tab t with
  | none => exact ⟨.junk, .junk _ v, by simp [TyV, hl]⟩
  | some r =>
    obtain ⟨dd, inf, z, hu, _, _, _, hag, _⟩ := trec_spec (C.ok t r hl)
    by_cases hr : r.agg = true
    · have hagg : ∃ cs, v = .agg cs := by
        rw [hr] at hag
        cases dd <;> simp [isAggD] at hag
        all_goals (simp only [Value.okWide, hu] at hv; obtain ⟨cs, rfl, _⟩ := hv; exact ⟨cs, rfl⟩)
      obtain ⟨cs, rfl⟩ := hagg
      refine ⟨.agg xs, ?_, ?_⟩
      · have := M.agg (F := still w) noPlaces cs.toList xs h1.1 h1.2
        simpa using this
      · simp only [TyV, hl, hr, if_true]
        exact ⟨n, xs, rfl, h2⟩
    · have hcells : v.cells.toList = [v] := by
        have hr' : r.agg = false := by simpa using hr
        rw [hr'] at hag
        cases v with
        | agg cs => cases dd <;> simp [isAggD] at hag <;> simp [Value.okWide, hu, Cell.okWide, Cell.ok] at hv
        | _ => rfl
      rw [hcells] at h1
      obtain ⟨hlen, hm⟩ := h1
      match xs, hlen, hm, h2 with
      | [y], _, hm, h2 =>
        refine ⟨y, hm 0 v y rfl rfl, ?_⟩
        simp only [TyV, hl, hr, if_false]
        exact ⟨n, h2⟩

theorem all_M (C : Cx) {b0 : Nat} {rch : Reach} : ∀ (ts : List TypeId) (vs : List Value) (ds : List (DataW H)) (ps : List MemPlace), DataW.TrodAll enc C.P w 0 sp held ts vs ds ps →
    (∀ (j : Nat) t v, ts[j]? = some t → vs[j]? = some v → Value.okWide C.P w rch b0 t v) → (∀ m, m ∈ DataW.weightsEach C.P ts ds → m ≤ 140737488355328) → ∃ ys, AllM (still w) noPlaces vs ys ∧ TyAll C.tab ts ys
  | [], vs, ds, ps, h, _, _ => by
    obtain ⟨rfl, rfl, rfl⟩ := trodAll_nil h
    exact ⟨[], AllM.nil, rfl⟩
  | t :: ts, vs, ds, ps, h, hok, hw => by
    obtain ⟨v, vs', d, ds', p, q, rfl, rfl, rfl, h0, hr⟩ := trodAll_cons h
    obtain ⟨y, h1, h2⟩ := value_M C (hok 0 t v rfl rfl) h0 (fun m hm => hw m (by simp only [DataW.weightsEach, List.mem_append]; exact .inl hm))
    obtain ⟨ys, h3, h4⟩ := all_M C ts vs' ds' q hr (fun j t v ht hv => hok (j + 1) t v (by simpa using ht) (by simpa using hv)) (fun m hm => hw m (by simp only [DataW.weightsEach, List.mem_append]; exact .inr hm))
    exact ⟨y :: ys, AllM.cons h1 h3, y, ys, rfl, h2, h4⟩

theorem trod_stays {P : Program} {w' : World} (hl : laidOutB P = true) (hb : Below w.heap.size w w') : ∀ (ts : List TypeId) (vs : List Value) (ds : List (DataW H)) (ps : List MemPlace), ts.all (fun t => P.readableRec t && decide (t < P.types.size)) = true →
    DataW.TrodAll enc P w 0 (fun _ => true) true ts vs ds ps → DataW.TrodAll enc P w' 0 (fun b => decide (b < w.heap.size)) true ts vs ds ps
  | [], vs, ds, ps, _, h => by
    obtain ⟨rfl, rfl, rfl⟩ := trodAll_nil h
    exact trodAll_mk0
  | t :: ts, vs, ds, ps, hr, h => by
    obtain ⟨v, vs', d, ds', p, q, rfl, rfl, rfl, h0, hrest⟩ := trodAll_cons h
    simp only [List.all_cons, Bool.and_eq_true, decide_eq_true_eq] at hr
    have h1 := Below.trod hl hr.1.1 hr.1.2 h0 hb (fun x hx => by obtain ⟨m, hm⟩ := h0; exact DataW.trod_lt m _ _ _ hm x hx)
    exact trodAll_cons_mk h1 (trod_stays hl hb ts vs' ds' q hr.2 hrest)

theorem law_calls (C : Cx) {f : FuncId} {ts : List TypeId} {vs : List Value} {ds : List (DataW H)} {ps : List MemPlace} {b0 : Nat} {rch : Reach} (hT : DataW.TrodAll enc C.P w 0 (fun _ => true) true ts vs ds ps)
    (hok : ∀ (j : Nat) t v, ts[j]? = some t → vs[j]? = some v → Value.okWide C.P w rch b0 t v) (hw : ∀ m, m ∈ DataW.weightsEach C.P ts ds → m ≤ 140737488355328) (hl : laidOutB C.P = true)
    (hr : ts.all (fun t => C.P.readableRec t && decide (t < C.P.types.size)) = true) (law : ∀ ys, TyAll C.tab ts ys → AFn C.P f ys (.v (.bool true))) :
    Calls C.P f vs.toArray w fun e w' => e = .returned (.bool true) ∧ Below w.heap.size w w' ∧ DataW.TrodAll enc C.P w' 0 (fun b => decide (b < w.heap.size)) true ts vs ds ps := by
  obtain ⟨ys, hm, hy⟩ := all_M C ts vs ds ps hT hok hw
  let B : Base := { w0 := w, F0 := still w, ρ0 := noPlaces, O0 := fun _ => False, N := vs.length }
  have hGa : Ga B (· < ([] : List HB).length) (fun i => ys.getD i .junk) (fun n => ([] : List HB).getD n .dead) ⟨vs.toArray, []⟩ w := by
    refine ⟨rfl, by simp [B], still w, noPlaces, ?_, fun i => ?_⟩
    · exact { kept := ⟨rfl, rfl, rfl, Nat.le_refl _, fun _ _ _ => rfl⟩, agree := fun b o h => h, grow := Still.le_refl _, fresh := fun b hb => .inl hb, names := Places.le_refl _, dom := fun n hn => absurd rfl hn, own := fun n => by simp [OwnAt], new := fun n b c hn => by simp [HB.isOwn] at hn, sep := fun n m b c c' _ hn => by simp [HB.isOwn] at hn }
    · show M (still w) noPlaces _ (ys.getD i .junk)
      cases hyi : ys[i]? with
      | none => rw [List.getD_eq_getElem?_getD, hyi]; exact .junk _ _
      | some y =>
        rw [List.getD_eq_getElem?_getD, hyi]
        have hi : i < vs.length := by rw [hm.1]; exact (List.getElem?_eq_some_iff.1 hyi).1
        have hv : vs[i]? = some vs[i] := List.getElem?_eq_getElem hi
        simp only [Array.getD_eq_getD_getElem?, List.getElem?_toArray, hv, Option.getD_some]
        exact hm.2 i _ y hv hyi
  refine (law ys hy B vs w hm.1 rfl hGa).mono fun e w' ⟨v, he, _, _, F, ρ, hp, ht⟩ => ?_
  have hv : v = .bool true := by
    have := ht 0
    simp only [one, if_true] at this
    exact this.v_inv.1
  have hb : Below w.heap.size w w' := ⟨hp.kept.os, hp.kept.tape, hp.kept.output, hp.kept.size, fun b hb => hp.kept.block b hb (fun h => h)⟩
  exact ⟨by rw [he, hv], hb, trod_stays hl hb ts vs ds ps hr hT⟩
end
end Go.Ab
