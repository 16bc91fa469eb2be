/- Arguments opened: a slice of structs of one-cell fields reads as a list of plain data. -/
import Derived.Test.YtdcigjpanpcaaaaOwn
import Derived.ProofKit
import Derived.OpenShut
import Derived.Deep.Slices
import Derived.Deep.Fields
import Derived.ChangeSame
import Derived.ChangeOld
import Derived.Lib.SmallJoins
namespace Go.Proofs.Ytdcigjpanpcaaaa
open Go.RowKit Go.ChangeShapes Go.WideShapes Go.Deep Go.Joins

section
variable {H : Type} {enc : TypeId × Value → H} {P : Program} {w : World} {base : Nat} {spare : Nat → Bool} {held : Bool}

theorem addr_add (b off k : Nat) : (⟨b, off, none⟩ : Addr).add k = ⟨b, off + k, none⟩ := by
  unfold Addr.add
  split
  · rename_i h; subst h; rfl
  · rfl

theorem open_list {α : Type} (c : α → List Value) (sz : Nat) (ok : α → Prop) {t e : TypeId} {fs : Array Field} (ht : P.underlying t = some (.slice e)) (he : P.underlying e = some (.struct fs))
    (hone : oneCellFields P fs = true) (hC : P.cellsOf e = fs.size) (hsz : fs.size = sz) (hp : 0 < sz)
    (hdec : ∀ vs : Nat → Value, (∀ (j : Nat) (f : Field), fs[j]? = some f → ∃ n y, DataW.trod enc P w base spare held n f.type [vs j] = some y) → ∃ x : α, ok x ∧ ∀ j u, (c x)[j]? = some u → j < sz ∧ vs j = u)
    {v : Value} {x : DataW H × List MemPlace} {fuel : Nat} (h : DataW.trod enc P w base spare held fuel t [v] = some x) : ∃ l : List α, Sl c sz w w.heap.size v l ∧ ∀ x ∈ l, ok x := by
  rcases open_slice ht h with ⟨hv, _⟩ | ⟨a, len, cap, m, n, D, Pl, hcs, hb, hl, hm, hmm, hx, hi⟩
  · simp only [List.cons.injEq, and_true] at hv
    subst hv
    exact ⟨[], Sl.nil, by intro x hx; cases hx⟩
  · simp only [List.cons.injEq, and_true] at hcs
    subst hcs
    have hlm : len ≤ m := by rw [hmm]; split <;> omega
    have hel : ∀ i, i < len → ∃ x : α, ok x ∧ ∀ j u, (c x)[j]? = some u → w.cell? (a.add (i * sz + j)) = some u := by
      intro i hi'
      obtain ⟨cs', hc, ht'⟩ := hi i (by omega)
      rw [hC] at hc
      obtain ⟨ys, n', _, _, hlen, hyl, hf⟩ := DataW.trod_struct he ht'
      obtain ⟨_, hcl, hat⟩ := World.cells?_some hc
      have hcell : ∀ j (hj : j < sz), w.cell? (a.add (i * sz + j)) = some (cs'[j]'(by omega)) := by
        intro j hj
        have h1 := hat j (by omega)
        rw [hsz, Go.Deep.add_add] at h1
        rw [h1, List.getElem?_eq_getElem (by omega)]
      obtain ⟨y, hy, hyc⟩ := hdec (fun j => cs'.getD j undef) (fun j f hj => by
        obtain ⟨ho, hk⟩ := hone_of hone j f hj
        have hjl : j < fs.size := (Array.getElem?_eq_some_iff.1 hj).1
        have h1 := hf j f hj
        rw [ho, hk] at h1
        have hone' : (cs'.drop j).take 1 = [cs'.getD j undef] := by
          rw [List.drop_eq_getElem_cons (by omega), List.getD_eq_getElem?_getD, List.getElem?_eq_getElem (by omega)]
          rfl
        rw [hone'] at h1
        have hys : ys[j]? = some (ys[j]'(by omega)) := List.getElem?_eq_getElem (by omega)
        exact ⟨n', _, h1.trans hys⟩)
      refine ⟨y, hy, fun j u hu => ?_⟩
      obtain ⟨hj, hju⟩ := hyc j u hu
      rw [hcell j hj, ← hju]
      simp only [List.getD_eq_getElem?_getD]
      rw [List.getElem?_eq_getElem (by omega)]
      rfl
    refine ⟨(List.range len).attach.map (fun i => Classical.choose (hel i.1 (List.mem_range.1 i.2))), ?_, ?_⟩
    · have hll : ((List.range len).attach.map (fun i => Classical.choose (hel i.1 (List.mem_range.1 i.2)))).length = len := by simp
      refine ⟨some a, cap, by rw [hll], by rw [hll]; exact hl, hm, fun k hk => ?_⟩
      have hk' : k < len := by rw [hll] at hk; exact hk
      have hg : ((List.range len).attach.map (fun i => Classical.choose (hel i.1 (List.mem_range.1 i.2))))[k] = Classical.choose (hel k hk') := by simp
      have hs := (Classical.choose_spec (hel k hk')).2
      -- the address has no spot, and lies in the heap
      obtain ⟨cs', hc, _⟩ := hi k (by omega)
      rw [hC] at hc
      obtain ⟨_, hcl, hat⟩ := World.cells?_some hc
      have h0 := hat 0 (by omega)
      rw [List.getElem?_eq_getElem (by omega)] at h0
      obtain ⟨ba, oa, sa⟩ := a
      have hspot : sa = none := by
        have h1 := World.cell?_spot h0
        have hA := hi 0 (by omega)
        obtain ⟨cs0, hc0, _⟩ := hA
        rw [hC] at hc0
        obtain ⟨_, hcl0, hat0⟩ := World.cells?_some hc0
        have h00 := hat0 0 (by omega)
        rw [List.getElem?_eq_getElem (by omega)] at h00
        have h2 := World.cell?_spot h00
        simpa [Addr.add] using h2
      subst hspot
      have hblk : ba < w.heap.size := by
        have := World.block_lt_of_cell? _ _ h0
        simp only [addr_add] at this
        exact this
      refine ⟨ba, oa, rfl, hblk, fun j u hu => ?_⟩
      rw [hg] at hu
      have := hs j u hu
      rw [addr_add] at this
      rw [Nat.add_assoc]
      exact this
    · intro x hx
      obtain ⟨i, _, rfl⟩ := List.mem_map.1 hx
      exact (Classical.choose_spec (hel i.1 (List.mem_range.1 i.2))).1

/-- A string as a list of bytes. -/
theorem str_of (s : ByteArray) : s = ⟨s.data.toList.toArray⟩ := by
  cases s; rfl
end
end Go.Proofs.Ytdcigjpanpcaaaa
