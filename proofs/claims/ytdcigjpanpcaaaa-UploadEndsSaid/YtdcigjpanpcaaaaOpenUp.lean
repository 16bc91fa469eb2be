/- An argument of type api.Uploads, opened. -/
import Derived.Test.YtdcigjpanpcaaaaRows
import Derived.Test.YtdcigjpanpcaaaaOpen
namespace Go.Proofs.Ytdcigjpanpcaaaa
open Go.RowKit Go.ChangeShapes Go.WideShapes Go.Deep Go.Joins

theorem cellsUp : Try.prog.cellsOf 24 = 4 := by kernel_rfl
theorem cellsSe : Try.prog.cellsOf 44 = 5 := by kernel_rfl

section
variable {H : Type} {enc : TypeId × Value → H} {W : World} {b0 : Nat} {r : Reach}

theorem dec_sess {base : Nat} {spare : Nat → Bool} {held : Bool} (vs : Nat → Value) (fs : Array Field) (hfs : Try.prog.underlying 44 = some (.struct fs))
    (h : ∀ (j : Nat) (f : Field), fs[j]? = some f → ∃ n y, DataW.trod enc Try.prog W base spare held n f.type [vs j] = some y) : ∃ x : Sess, x.ok ∧ ∀ j u, (x.cells)[j]? = some u → j < 5 ∧ vs j = u := by
  have hfs' := Try.underlying44
  rw [hfs] at hfs'
  simp only [Option.some.injEq] at hfs'
  injection hfs' with hfs'
  subst hfs'
  obtain ⟨n0, y0, h0⟩ := h 0 _ rfl
  obtain ⟨n1, y1, h1⟩ := h 1 _ rfl
  obtain ⟨n2, y2, h2⟩ := h 2 _ rfl
  obtain ⟨n3, y3, h3⟩ := h 3 _ rfl
  obtain ⟨n4, y4, h4⟩ := h 4 _ rfl
  obtain ⟨a0, e0, _, _⟩ := DataW.trod_int Try.underlying3 h0
  obtain ⟨a1, e1, _, l1⟩ := DataW.trod_string Try.underlying9 h1
  obtain ⟨a2, e2, _, l2⟩ := DataW.trod_string Try.underlying9 h2
  obtain ⟨a3, e3, _, _⟩ := DataW.trod_int Try.underlying3 h3
  obtain ⟨a4, e4, _, _⟩ := DataW.trod_int Try.underlying3 h4
  simp only [List.cons.injEq, and_true] at e0 e1 e2 e3 e4
  refine ⟨⟨a0, a1.data.toList, a2.data.toList, a3, a4⟩, ?_, ?_⟩
  · unfold maxLen at l1 l2
    exact ⟨by simpa using l1, by simpa using l2⟩
  · intro j u hu
    match j, hu with
    | 0, hu => exact ⟨by omega, by simp [Sess.cells] at hu; rw [e0, hu]⟩
    | 1, hu => exact ⟨by omega, by simp [Sess.cells] at hu; rw [e1, ← hu]⟩
    | 2, hu => exact ⟨by omega, by simp [Sess.cells] at hu; rw [e2, ← hu]⟩
    | 3, hu => exact ⟨by omega, by simp [Sess.cells] at hu; rw [e3, hu]⟩
    | 4, hu => exact ⟨by omega, by simp [Sess.cells] at hu; rw [e4, hu]⟩
    | j + 5, hu => simp [Sess.cells] at hu

theorem open_uploads {v : Value} {d : DataW H} {p : List MemPlace} (hv : Value.okWide Try.prog W r b0 24 v) (h : DataW.Trod enc Try.prog W 0 (fun _ => true) true 24 v d p) :
    ∃ (vs : Value) (u : Upl), v = .agg #[vs, .int .i64 u.next, .int .i64 u.lasts, .int .i64 u.room] ∧ Sl Sess.cells 5 W W.heap.size vs u.sess ∧ (∀ s ∈ u.sess, s.ok) ∧ (Lit.int .i64 u.next).wf = true ∧ (Lit.int .i64 u.lasts).wf = true ∧ (Lit.int .i64 u.room).wf = true := by
  obtain ⟨v0, v1, v2, v3, y0, y1, y2, y3, n, rfl, _, _, h0, h1, h2, h3⟩ := open_agg4 Try.underlying24 (by kernel_rfl) cellsUp hv h
  obtain ⟨a1, e1, _, w1⟩ := DataW.trod_int Try.underlying3 h1
  obtain ⟨a2, e2, _, w2⟩ := DataW.trod_int Try.underlying3 h2
  obtain ⟨a3, e3, _, w3⟩ := DataW.trod_int Try.underlying3 h3
  simp only [List.cons.injEq, and_true] at e1 e2 e3
  subst e1 e2 e3
  obtain ⟨l, hl, ho⟩ := open_list Sess.cells 5 Sess.ok Try.underlying22 Try.underlying44 (by kernel_rfl) cellsSe rfl (by omega) (fun vs hvs => dec_sess vs _ Try.underlying44 hvs) h0
  exact ⟨v0, ⟨l, a1, a2, a3⟩, rfl, hl, ho, w1, w2, w3⟩
end
end Go.Proofs.Ytdcigjpanpcaaaa
