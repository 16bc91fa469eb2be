/- Small laws: a row that is owned, while boxes are written; what is known behind a call. -/
import Derived.Test.YtdcigjpanpcaaaaRow
namespace Go.Proofs.Ytdcigjpanpcaaaa
open Go.RowKit

theorem after' {B : Nat} {W w1 : World} (hb : Below B W w1) : (∀ b o, b < B → w1.cell? ⟨b, o, none⟩ = W.cell? ⟨b, o, none⟩) ∧ (∀ b o, b < B → w1.frozen? ⟨b, o, none⟩ = W.frozen? ⟨b, o, none⟩) ∧ W.heap.size ≤ w1.heap.size :=
  ⟨fun b o h => hb.cell (p := ⟨b, o, none⟩) h, fun b o h => hb.frozen (p := ⟨b, o, none⟩) h, hb.size⟩

theorem World.drew_heap' (w : World) : w.drew.heap.size = w.heap.size := rfl
theorem World.dn_heap' (w : World) (n : Nat) : (w.drewN n).heap.size = w.heap.size := rfl
theorem World.setCell_size' (w : World) (a : Addr) (u : Value) : (w.setCell a u).heap.size = w.heap.size := by simp [World.setCell]

theorem fz_out (w : World) {b : Nat} (h : w.heap.size ≤ b) (o : Nat) : w.frozen? ⟨b, o, none⟩ = false := by
  simp [World.frozen?, Array.getElem?_eq_none h]
theorem fz_alc (w : World) (c : Array Value) (t : TypeId) (a : Addr) : (w.alloc (.cells c t)).frozen? a = w.frozen? a := frozen?_alloc_cells w c t a

section
variable {α : Type} {c : α → List Value} {E sz base : Nat} {w : World} {v : Value} {l : List α}
theorem Own.val (h : Own c E sz w base v l) : ∃ A cap, v = .slice A l.length cap := by
  rcases h.2 with ⟨hv, h0⟩ | ⟨g, cap, cur, hv, _⟩
  · exact ⟨none, 0, by rw [hv, h0]⟩
  · exact ⟨_, _, hv⟩
theorem Own.setB (h : Own c E sz w base v l) {b o : Nat} (hb : b < base) (u : Value) : Own c E sz (w.setCell ⟨b, o, none⟩ u) base v l := ownsRow_setCell_below h hb u
theorem Own.allc (h : Own c E sz w base v l) (o : Obj) : Own c E sz (w.alloc o) base v l := World.ownsRow.alloc h o
theorem Own.dn (h : Own c E sz w base v l) (n : Nat) : Own c E sz (w.drewN n) base v l := h
theorem Own.d1 (h : Own c E sz w base v l) : Own c E sz w.drew base v l := h
theorem Own.to (h : Own c E sz w base v l) {l' : List α} (e : l = l') : Own c E sz w base v l' := e ▸ h
end
end Go.Proofs.Ytdcigjpanpcaaaa
