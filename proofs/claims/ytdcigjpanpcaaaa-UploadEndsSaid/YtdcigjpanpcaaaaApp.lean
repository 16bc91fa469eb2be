/- append onto a row that the call owns, as lists of plain data; what a region asks of it. -/
import Derived.Test.YtdcigjpanpcaaaaOwn
import Derived.Maps.AppendAt
import Derived.Deep.RegionLaw
namespace Go.Proofs.Ytdcigjpanpcaaaa
open Go.RowKit

/-- What is known of a slice type t of elements E of sz cells. -/
structure ElT (P : Program) (t E sz bytes : Nat) : Prop where
  ht : P.underlying t = some (.slice E)
  ex : ∃ i z, P.info? E = some i ∧ i.zero = some z ∧ i.size = sz ∧ i.bytes = bytes ∧ z.cells.size = sz
  pos : 0 < sz

theorem ElT.mk' {P : Program} {t E sz bytes : Nat} {z : Value} (ht : P.underlying t = some (.slice E)) (hi : (P.info? E).map (fun i => (i.zero, i.size, i.bytes)) = some (some z, sz, bytes)) (hz : z.cells.size = sz) (hp : 0 < sz) : ElT P t E sz bytes := by
  refine ⟨ht, ?_, hp⟩
  cases h : P.info? E with
  | none => rw [h] at hi; simp at hi
  | some i =>
    rw [h] at hi
    simp only [Option.map_some, Option.some.injEq, Prod.mk.injEq] at hi
    exact ⟨i, z, rfl, hi.1, hi.2.1, hi.2.2, hz⟩

theorem run_append_none {P : Program} {w : World} {base t ty E sz : Nat} (ht : P.underlying t = some (.slice E)) {i : TypeInfo} (hi : P.info? E = some i)
    {v : Value} {n : Nat} {xs : List Value} (hown : w.ownsRow base E sz v n xs) (c : Nat) : (Builtin.append_ #[t, t] ty #[v, .slice none 0 c]).run P w = .ok v w := by
  rcases hown.2 with ⟨rfl, rfl⟩ | ⟨g, cap, cur, rfl, _, _, hnc, _⟩
  · simp [Builtin.append_, run_underlying ht, sizeOf, typeInfo, hi, Builtin.lenOf, Builtin.firstCells]
  · simp [Builtin.append_, run_underlying ht, sizeOf, typeInfo, hi, Builtin.lenOf, Builtin.firstCells, hnc, storeCells]

theorem Sl.flat {α : Type} {c : α → List Value} {sz : Nat} {w : World} {B : Nat} {ad : Addr} {n cap : Nat} {m : List α} (hc : ∀ a, (c a).length = sz) (hp : 0 < sz) (h : Sl c sz w B (.slice (some ad) n cap) m) :
    ∀ j u, (m.flatMap c)[j]? = some u → w.cell? (ad.add j) = some u := by
  intro j u hu
  have hj := (List.getElem?_eq_some_iff.1 hu).1
  rw [flat_len hc] at hj
  have hk : j / sz < m.length := Nat.div_lt_of_lt_mul (by rw [Nat.mul_comm]; exact hj)
  have hr : j % sz < sz := Nat.mod_lt _ hp
  have hjj : j / sz * sz + j % sz = j := by rw [Nat.mul_comm]; exact Nat.div_add_mod j sz
  rw [← hjj, flat_get hc hk hr] at hu
  obtain ⟨b, off, hA, _, hcell⟩ := h.at rfl hk
  have := hcell _ _ hu
  injection hA with hA
  subst hA
  unfold Addr.add
  split
  · rename_i h0
    rw [h0, show off + 0 / sz * sz + 0 % sz = off from by simp] at this
    exact this
  · rw [show off + j / sz * sz + j % sz = off + j from by omega] at this
    exact this

section
variable {α : Type} {c : α → List Value} {P : Program} {t E sz bytes base : Nat} {w : World} {v src : Value} {l m : List α} {B : Nat}

theorem Own.gt (h : Own c E sz w base v l) : ∀ k, v.ownBlock = some k → base ≤ k ∧ k < w.heap.size := h.lt

theorem run_app (hc : ∀ a, (c a).length = sz) (h1 : ∀ a, ∀ u ∈ c a, u.oneCell' = true) (el : ElT P t E sz bytes) (ty : Nat) (hown : Own c E sz w base v l) (hsrc : Sl c sz w B src m)
    (hb : (l.length + m.length) * bytes ≤ 140737488355328) (h63 : l.length + m.length ≤ maxLen) (hbase : base ≤ w.heap.size) :
    ∃ v' w', (Builtin.append_ #[t, t] ty #[v, src]).run P w = .ok v' w' ∧ Own c E sz w' base v' (l ++ m) ∧ Below base w w' ∧ (v' = .slice none 0 0 ↔ v = .slice none 0 0 ∧ m = []) := by
  obtain ⟨i, z, hi, hz, hs, hby, hzs⟩ := el.ex
  obtain ⟨A, cap, rfl, hl, _, _⟩ := hsrc.form
  cases A with
  | none =>
    have hm : m = [] := by
      cases m with
      | nil => rfl
      | cons a t =>
        obtain ⟨b, off, hA, _⟩ := hsrc.at rfl (k := 0) (by simp)
        cases hA
    subst hm
    exact ⟨v, w, run_append_none el.ht hi hown cap, by simpa using hown, Below.refl _ _, by simp⟩
  | some ad =>
    obtain ⟨v', w', hr, h2, h3, h4, _⟩ := run_append_own_at (P := P) w base t ty E i z sz bytes el.ht hi hz hs hby hzs el.pos v l.length (l.flatMap c) hown ad m.length cap (m.flatMap c) (flat_len hc m)
      (hsrc.flat hc el.pos) (by intro u hu; obtain ⟨a, _, ha⟩ := List.mem_flatMap.1 hu; exact h1 a u ha) h63 hb hbase
    refine ⟨v', w', hr, ?_, (Below.refl _ _).grown h3 hbase (fun k hk => (hown.gt k hk).1), ?_⟩
    · unfold Own
      rw [List.length_append, List.flatMap_append]
      exact h2
    · rw [h4]
      simp

theorem wp_app {o : Oper} {a : Act} {K : Act → World → Prop} {Q : Exit → Act → World → Prop} (s x : Operand) (ho : o.op = .call { callee := .builtin .append, args := #[s, x], argTypes := #[t, t] })
    (hc : ∀ a, (c a).length = sz) (h1 : ∀ a, ∀ u ∈ c a, u.oneCell' = true) (el : ElT P t E sz bytes) (hs : a.eval s = v) (hx : a.eval x = src) (hown : Own c E sz w base v l) (hsrc : Sl c sz w B src m)
    (hb : (l.length + m.length) * bytes ≤ 140737488355328) (h63 : l.length + m.length ≤ maxLen) (hbase : base ≤ w.heap.size)
    (h : ∀ v' w', Own c E sz w' base v' (l ++ m) → Below base w w' → (v' = .slice none 0 0 ↔ v = .slice none 0 0 ∧ m = []) → K (a.put o.dst v') w') : o.wp P a w K Q := by
  obtain ⟨v', w', hr, h2, h3, h4⟩ := run_app (P := P) hc h1 el o.type hown hsrc hb h63 hbase
  unfold Oper.wp execOp
  simp only [ho, resolve, invoke, builtin, Sem.run_bind, Sem.run_pure, Result.andThen_ok, List.map_toArray, List.map_cons, List.map_nil, hs, hx, hr]
  exact h v' w' h2 h3 h4

theorem wpList_app {ops : Array Oper} {rest : List Oper} {o : Oper} {a : Act} {Q : Exit → Act → World → Prop} (hgd : o.guard = none) (s x : Operand) (ho : o.op = .call { callee := .builtin .append, args := #[s, x], argTypes := #[t, t] })
    (hc : ∀ a, (c a).length = sz) (h1 : ∀ a, ∀ u ∈ c a, u.oneCell' = true) (el : ElT P t E sz bytes) (hs : a.eval s = v) (hx : a.eval x = src) (hown : Own c E sz w base v l) (hsrc : Sl c sz w B src m)
    (hb : (l.length + m.length) * bytes ≤ 140737488355328) (h63 : l.length + m.length ≤ maxLen) (hbase : base ≤ w.heap.size)
    (h : ∀ v' w', Own c E sz w' base v' (l ++ m) → Below base w w' → (v' = .slice none 0 0 ↔ v = .slice none 0 0 ∧ m = []) → wpList P ops Q rest (a.put o.dst v') w') : wpList P ops Q (o :: rest) a w :=
  wpList_plain hgd fun _ hK => wp_app s x ho hc h1 el hs hx hown hsrc hb h63 hbase fun v' w' h2 h3 h4 => hK _ _ (h v' w' h2 h3 h4)

theorem step_app {ops : Array Oper} {o : Oper} {a : Act} {K : Act → World → Prop} {Q : Exit → Act → World → Prop} {G : Prop} (hgd : o.guard = none) (s x : Operand) (ho : o.op = .call { callee := .builtin .append, args := #[s, x], argTypes := #[t, t] })
    (hc : ∀ a, (c a).length = sz) (h1 : ∀ a, ∀ u ∈ c a, u.oneCell' = true) (el : ElT P t E sz bytes) (hs : a.eval s = v) (hx : a.eval x = src) (hown : Own c E sz w base v l) (hsrc : Sl c sz w B src m)
    (hb : (l.length + m.length) * bytes ≤ 140737488355328) (h63 : l.length + m.length ≤ maxLen) (hbase : base ≤ w.heap.size)
    (h : ∀ v' w', Own c E sz w' base v' (l ++ m) → Below base w w' → (v' = .slice none 0 0 ↔ v = .slice none 0 0 ∧ m = []) → K (a.put o.dst v') w') : if Region.wanted o (yielded ops a.tmps) = true then Oper.wp P o a w K Q else G := by
  rw [if_pos (by simp [Region.wanted, hgd])]
  exact wp_app s x ho hc h1 el hs hx hown hsrc hb h63 hbase h
end

theorem Own.nil' {α : Type} {c : α → List Value} {E sz : Nat} {w : World} {base : Nat} : Own c E sz w base (.slice none 0 0) ([] : List α) := World.ownsRow_nil w base E sz
theorem Sess.one (s : Sess) : ∀ u ∈ s.cells, u.oneCell' = true := by intro u hu; simp [Sess.cells] at hu; rcases hu with rfl | rfl | rfl | rfl | rfl <;> rfl
theorem Gra.one (s : Gra) : ∀ u ∈ s.cells, u.oneCell' = true := by intro u hu; simp [Gra.cells] at hu; rcases hu with rfl | rfl | rfl <;> rfl
end Go.Proofs.Ytdcigjpanpcaaaa
