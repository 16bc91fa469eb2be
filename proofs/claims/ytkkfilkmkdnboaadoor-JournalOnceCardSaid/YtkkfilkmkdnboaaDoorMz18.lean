import Derived.Test.YtkkfilkmkdnboaaDoorMz8
/- The abstract layer: contracts in the kit's words told abstractly, and the other way round. -/
set_option linter.unusedSimpArgs false
set_option linter.unusedVariables false
namespace Go.Ab
open Go.RowKit
/-- What a function answers whose result is of no memory, in the kit's words. -/
theorem calls_afn {P : Program} {f : FuncId} {ys : List AV} {r : Value} {F : Still} {w : World} {vs : List Value} (h : AFn P f ys (.v r)) (hF : ∀ b o, F b = some o → w.heap[b]? = some o) (hT : ∀ b cs, tables b = some cs → ∃ e fr, F b = some (.cells cs e fr)) (hm : AllM F noPlaces vs ys) :
    Calls P f vs.toArray w fun e w' => e = .returned r ∧ Below w.heap.size w w' := by
  let B : Base := { w0 := w, F0 := F, ρ0 := noPlaces, O0 := fun _ => False, N := vs.length, tab := hT }
  have hGa : Ga B (· < ([] : List HB).length) (fun i => ys.getD i .junk) (fun n => ([] : List HB).getD n .dead) ⟨vs.toArray, []⟩ w := by
    refine ⟨rfl, by simp [B], F, noPlaces, ?_, fun i => ?_⟩
    · exact { kept := ⟨rfl, rfl, rfl, Nat.le_refl _, fun _ _ _ => rfl⟩, agree := hF, grow := Still.le_refl _, fresh := fun b hb => .inl hb, names := Places.le_refl _, dom := fun n hn => absurd rfl hn, own := fun n => by simp [OwnAt], new := fun n b c hn => by simp [HB.isOwn] at hn, sep := fun n m b c c' _ hn => by simp [HB.isOwn] at hn }
    · show M F noPlaces _ (ys.getD i .junk)
      cases hyi : ys[i]? with
      | none => rw [List.getD_eq_getElem?_getD, hyi]; exact .junk _ _
      | some y =>
        rw [List.getD_eq_getElem?_getD, hyi]
        have hi : i < vs.length := by rw [hm.1]; exact (List.getElem?_eq_some_iff.1 hyi).1
        have hv : vs[i]? = some vs[i] := List.getElem?_eq_getElem hi
        simp only [Array.getD_eq_getD_getElem?, List.getElem?_toArray, hv, Option.getD_some]
        exact hm.2 i _ y hv hyi
  refine (h B vs w hm.1 rfl hGa).mono fun e w' ⟨v, he, _, _, F', ρ, hp, ht⟩ => ?_
  have hv : v = r := by
    have := ht 0
    simp only [one, if_true] at this
    exact this.v_inv.1
  exact ⟨by rw [he, hv], ⟨hp.kept.os, hp.kept.tape, hp.kept.output, hp.kept.size, fun b hb => hp.kept.block b hb (fun h => h)⟩⟩
/-- A contract in the kit's words, told abstractly: new blocks may be laid. -/
theorem afn_world {P : Program} {f : FuncId} {ys : List AV} {r : Value} (hp : AV.pure.pureL ys = true) (hr : single r = true)
    (h : ∀ (F : Still) w vs, (∀ b o, F b = some o → w.heap[b]? = some o) → (∀ b cs, tables b = some cs → ∃ e fr, F b = some (.cells cs e fr)) → AllM F noPlaces vs ys → Calls P f vs.toArray w fun e w' => e = .returned r ∧ Below w.heap.size w w') : AFn P f ys (.v r) := by
  intro B vs w hl hN ⟨g1, g2, F, ρ, hh, g4⟩
  have hm : AllM F noPlaces vs ys := by
    refine ⟨hl, fun i v y hv hy => ?_⟩
    have hi : i < vs.length := (List.getElem?_eq_some_iff.1 hv).1
    have := g4 i
    simp only [Array.getD_eq_getD_getElem?, List.getElem?_toArray, hv, Option.getD_some, List.getD_eq_getElem?_getD, hy] at this
    exact this.moved _ (pureL_mem hp hy)
  refine (h F w vs hh.agree (fun b cs hb => (B.tab b cs hb).imp fun e h => h.imp fun fr h => hh.grow b _ h) hm).mono fun e w' ⟨he, hb⟩ => ⟨r, he, rfl, rfl, F, ρ, ?_, fun i => ?_⟩
  · refine { kept := ⟨hb.os.trans hh.kept.os, hb.tape.trans hh.kept.tape, hb.output.trans hh.kept.output, Nat.le_trans hh.kept.size hb.size, fun b hlt ho => ?_⟩, agree := fun b o hF => ?_, grow := hh.grow, fresh := hh.fresh, names := hh.names, dom := fun _ _ => trivial, own := fun n => by simp [OwnAt], new := fun n b c hn => by simp [HB.isOwn] at hn, sep := fun n m b c c' _ hn => by simp [HB.isOwn] at hn }
    · rw [hb.block b (Nat.lt_of_lt_of_le hlt hh.kept.size)]; exact hh.kept.block b hlt ho
    · have h0 := hh.agree b o hF
      rw [hb.block b (Array.getElem?_eq_some_iff.1 h0).1]; exact h0
  · by_cases hi : i = 0
    · subst hi; exact .v _ _ hr
    · unfold one; rw [if_neg hi]; exact .junk _ _
theorem M.clo_inv {F : Still} {ρ : Places} {v : Value} {fn : Fn} {xs ys : List AV} (h : M F ρ v (.clo fn xs ys)) : ∃ vs us : List Value, v = .func fn vs.toArray us.toArray ∧ AllM F ρ vs xs ∧ AllM F ρ us ys := by
  cases h with | clo _ _ vs us _ _ hl hm h1 h2 => exact ⟨vs, us, rfl, ⟨hl, h1⟩, ⟨hm, h2⟩⟩
end Go.Ab
