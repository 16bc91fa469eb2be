/- Uploads: DeleteFunc over sessions that the call owns: what is left. -/
import Derived.Test.YtdcigjpanpcaaaaRow
import Derived.Test.YtdcigjpanpcaaaaUpD
namespace Go.Proofs.Ytdcigjpanpcaaaa
open Go.RowKit

theorem zeroSess (w : World) : (zeroValue 44).run Try.prog w = .ok (.agg #[.int .i64 0, .string ⟨#[]⟩, .string ⟨#[]⟩, .int .i64 0, .int .i64 0]) w := by kernel_rfl

/-- Is it kept? -/
def stays (now : Int) (s : Sess) : Bool := !gone now s

theorem filter_hit {α : Type} {p : α → Bool} {l : List α} {k : Nat} (hk : k < l.length) (hp : p l[k] = true) : (l.take (k + 1)).filter p = (l.take k).filter p ++ [l[k]] := by
  rw [take_succ' hk, List.filter_append]; simp [hp]
theorem filter_miss {α : Type} {p : α → Bool} {l : List α} {k : Nat} (hk : k < l.length) (hp : p l[k] = false) : (l.take (k + 1)).filter p = (l.take k).filter p := by
  rw [take_succ' hk, List.filter_append]; simp [hp]

/-- The row after j of its elements have been looked at, i of them kept. -/
structure Del {α : Type} (p : α → Bool) (l : List α) (i j : Nat) (R : List α) : Prop where
  len : R.length = l.length
  le : i ≤ j
  jn : j ≤ l.length
  head : R.take i = (l.take j).filter p
  tail : R.drop j = l.drop j

theorem Del.start {α : Type} {p : α → Bool} {l : List α} {i : Nat} (hi : i < l.length) (ha : (l.take i).all p = true) (hp : p l[i] = false) : Del p l i (i + 1) l where
  len := rfl
  le := by omega
  jn := by omega
  head := by
    rw [filter_miss hi hp]
    symm
    rw [List.filter_eq_self]
    intro a hm
    rw [List.all_eq_true] at ha
    exact ha a hm
  tail := rfl

theorem Del.at {α : Type} {p : α → Bool} {l : List α} {i j : Nat} {R : List α} (h : Del p l i j R) (hj : j < l.length) : R[j]'(by rw [h.len]; exact hj) = l[j] := by
  have h1 := congrArg (fun x => x[0]?) h.tail
  simp only [List.getElem?_drop, Nat.add_zero] at h1
  rw [List.getElem?_eq_getElem (by rw [h.len]; exact hj), List.getElem?_eq_getElem hj] at h1
  injection h1

theorem Del.drop {α : Type} {p : α → Bool} {l : List α} {i j : Nat} {R : List α} (h : Del p l i j R) (hj : j < l.length) (hp : p l[j] = false) : Del p l i (j + 1) R where
  len := h.len
  le := by have := h.le; omega
  jn := by omega
  head := by rw [filter_miss hj hp, h.head]
  tail := by
    have := congrArg (List.drop 1) h.tail
    rwa [List.drop_drop, List.drop_drop] at this

theorem Del.keep {α : Type} {p : α → Bool} {l : List α} {i j : Nat} {R : List α} (h : Del p l i j R) (hj : j < l.length) (hp : p l[j] = true) : Del p l (i + 1) (j + 1) (R.set i l[j]) where
  len := by rw [List.length_set, h.len]
  le := by have := h.le; omega
  jn := by omega
  head := by
    have hi : i < R.length := by have := h.le; rw [h.len]; omega
    rw [filter_hit hj hp, ← h.head, List.take_succ_eq_append_getElem (by simpa using hi), List.take_set_of_le (Nat.le_refl _)]
    simp
  tail := by
    have := congrArg (List.drop 1) h.tail
    rw [List.drop_drop, List.drop_drop] at this
    rw [List.drop_set_of_lt (by have := h.le; omega)]
    exact this

theorem Del.end_ {α : Type} {p : α → Bool} {l : List α} {i j : Nat} {R : List α} (h : Del p l i j R) (hj : ¬ j < l.length) : R.take i = l.filter p := by
  have := h.head
  rwa [List.take_of_length_le (l := l) (by omega)] at this

set_option maxRecDepth 100000 in
set_option maxHeartbeats 1000000 in
theorem deleteF_swept (now : Int) (b0 base : Nat) (v : Value) (l : List Sess) (w : World) (hown : Own Sess.cells 44 5 w base v l) (hbase : base ≤ w.heap.size) (hn : w.cell? ⟨b0, 0, none⟩ = some (.int .i64 now)) (hb0 : b0 < base) :
    Calls Try.prog 79 #[v, .func (.func 81) #[] #[.pointer (some ⟨b0, 0, none⟩)]] w fun e w' => ∃ v', e = .returned v' ∧ Own Sess.cells 44 5 w' base v' (l.filter (stays now)) ∧ Below base w w' := by
  have hs := hown.sl Sess.cells_len
  cases hf : l.findIdx? (gone now) with
  | none =>
    have hfl : l.filter (stays now) = l := by
      rw [List.filter_eq_self]
      intro a ha
      rw [List.findIdx?_eq_none_iff] at hf
      have := hf a ha
      simp only [stays, this]; rfl
    go_enter Try.func79, Try.ntmps79
    go_wp2_with (go_at_call 68; refine (indexF_swept now b0 _ l _ _ hs (Nat.le_refl _) hn (by omega)).mono ?_; rintro e w1 ⟨rfl, hb1⟩)
    go_ret
    exact ⟨_, rfl, by rw [hfl]; exact hown.below hb1, hb1.mono hbase⟩
  | some i0 =>
    rw [List.findIdx?_eq_some_iff_getElem] at hf
    obtain ⟨hi0, hp0, hall⟩ := hf
    have hD : Del (stays now) l i0 (i0 + 1) l := Del.start hi0 (by
      rw [List.all_eq_true]
      intro a ha
      obtain ⟨j, hj, rfl⟩ := List.mem_take_iff_getElem.1 ha
      have := hall j (by omega)
      simpa [stays] using this) (by simp only [stays, hp0]; rfl)
    have hf : l.findIdx? (gone now) = some i0 := by
      rw [List.findIdx?_eq_some_iff_getElem]; exact ⟨hi0, hp0, hall⟩
    have hf' := Lib.hid hf
    clear hp0 hall
    have h12 : ((i0 : Int) == -1) = false := by rw [beq_eq_false_iff_ne]; omega
    obtain ⟨g, cap, rfl, hg, hg2, hnc, hcm, hcs, hfz⟩ := hown.form (by omega)
    go_enter Try.func79, Try.ntmps79
    go_wp2_with (go_at_call 68; refine (indexF_swept now b0 _ l _ _ hs (Nat.le_refl _) hn (by omega)).mono ?_; rintro e w1 ⟨rfl, hb1⟩; rw [hf]; clear hf)
    have hD1 := Lib.hid hD
    have hL : l.length ≤ 9223372036854775807 := by omega
    have hO1 := Lib.hid (hown.below hb1)
    have hz1 := hb1.size
    clear hs hD hown hf' hcs hfz hnc
    go_loopw [5, 6, 7] (fun i j _ wr => ∃ (ki kj : Nat) (R : List Sess), i = .int .i64 ki ∧ j = .int .i64 kj ∧ kj ≤ l.length ∧ ki ≤ kj ∧ Hid (Del (stays now) l ki kj R) ∧ Hid (Own Sess.cells 44 5 wr base (.slice (some ⟨g, 0, none⟩) l.length cap) R) ∧ wr.cell? ⟨b0, 0, none⟩ = some (.int .i64 now) ∧ Below base w wr) (fun _ j _ _ => l.length - (intOf j).toNat)
    case atStart => exact ⟨i0, i0 + 1, l, rfl, by go_num, by omega, by omega, hD1, hO1, bcs hb1 (by omega) hn, hb1.mono hbase⟩
    case round =>
      obtain ⟨i, j, R, rfl, rfl, hj, hij, HD, HO, hn, hb⟩ := hrel
      have hz := hb.size
      have hR : R.length = l.length := HD.out.len
      have hRpos : 0 < R.length := by omega
      by_cases hlt : j < l.length
      · obtain ⟨g', cap', hv', _, _, hnc, _, hcs, hfz⟩ := Own.form HO.out hRpos
        obtain ⟨rfl, rfl⟩ : g' = g ∧ cap' = cap := by
          simp only [Value.slice.injEq, Option.some.injEq, Addr.mk.injEq, and_true] at hv'
          exact ⟨hv'.1.symm, hv'.2.2.symm⟩
        have hat := HD.out.at hlt
        obtain ⟨b, off, hbo, hB, c0, c1, c2, c3, c4⟩ := (Own.sl Sess.cells_len HO.out).sess (k := j) (by omega)
        rw [hat] at c0 c1 c2 c3 c4
        obtain ⟨rfl, rfl⟩ : b = g' ∧ off = 0 := by
          simp only [Option.some.injEq, Addr.mk.injEq, and_true] at hbo
          exact ⟨hbo.1.symm, hbo.2.symm⟩
        rw [Nat.zero_add] at c0 c1 c2 c3 c4
        clear hbo hv' hat
        cases hp : gone now l[j] with
        | true =>
          have HS := Lib.hid (HD.out.drop hlt (by simp only [stays, hp]; rfl))
          clear hcs hfz hnc hR
          go_wp2_with (go_at_call 81; go_must (refine (sweptC_any _ _ _ _ (alc _ hn) (by rw [als]; omega)).mono ?_; rintro e w2 ⟨rfl, hb2⟩))
          go_roundw
          case rel =>
            have hb3 : Below wr.heap.size wr w2 := ((Below.refl _ wr).alloc (Nat.le_refl _) _).trans (hb2.mono (by simp))
            exact ⟨i, j + 1, R, rfl, by go_num, by omega, by omega, HS, Own.below HO.out hb3, bcs hb3 (by omega) hn, hb.trans (hb3.mono (by omega))⟩
          case measure => simp [intOf]; omega
        | false =>
          have HS := Lib.hid (HD.out.keep hlt (by simp only [stays, hp]; rfl))
          have HC := Lib.hid (fun r (hr : r < 5) => And.intro (hcs (i * 5 + r) (by omega)) (hfz (i * 5 + r)))
          clear hcs hfz
          have hiR : i < R.length := by omega
          go_wp2_with (
            go_at_call 81
            refine (sweptC_any _ _ _ _ (alc _ hn) (by rw [als]; omega)).mono ?_
            rintro e w2 ⟨rfl, hb2⟩
            have hb3 : Below wr.heap.size wr w2 := ((Below.refl _ wr).alloc (Nat.le_refl _) _).trans (hb2.mono (by simp))
            have x0 := box_cell hb2 (by simp) 0 _ rfl
            have x1 := box_cell hb2 (by simp) 1 _ rfl
            have x2 := box_cell hb2 (by simp) 2 _ rfl
            have x3 := box_cell hb2 (by simp) 3 _ rfl
            have x4 := box_cell hb2 (by simp) 4 _ rfl
            obtain ⟨y0, z0⟩ := HC.out 0 (by omega)
            obtain ⟨y1, z1⟩ := HC.out 1 (by omega)
            obtain ⟨y2, z2⟩ := HC.out 2 (by omega)
            obtain ⟨y3, z3⟩ := HC.out 3 (by omega)
            obtain ⟨y4, z4⟩ := HC.out 4 (by omega)
            simp only [Nat.add_zero] at y0 z0
            rw [← bc hb3 (by omega)] at y0 y1 y2 y3 y4
            rw [← bfz hb3 (by omega)] at z0 z1 z2 z3 z4
            obtain ⟨t0, y0⟩ := Option.isSome_iff_exists.1 y0
            obtain ⟨t1, y1⟩ := Option.isSome_iff_exists.1 y1
            obtain ⟨t2, y2⟩ := Option.isSome_iff_exists.1 y2
            obtain ⟨t3, y3⟩ := Option.isSome_iff_exists.1 y3
            obtain ⟨t4, y4⟩ := Option.isSome_iff_exists.1 y4)
          go_roundw
          case rel =>
            have hset := Own.set Sess.cells_len (Own.below HO.out hb3) (k := i) hiR l[j]
            have hW : Below base w2 (w2.setCells b (i * 5) l[j].cells) := below_setCells (by omega) _ _ _ (Below.refl _ _)
            exact ⟨i + 1, j + 1, R.set i l[j], by go_num, by go_num, by omega, by omega, HS, hset, bcs hW hb0 (bcs hb3 (by omega) hn), hb.trans ((hb3.mono (by omega)).trans hW)⟩
          case measure => simp [intOf]; omega
      · have hfin := HD.out.end_ hlt
        obtain ⟨g', cap', hv', _, _, hnc, _, hcs, hfz⟩ := Own.form HO.out hRpos
        obtain ⟨rfl, rfl⟩ : g' = g ∧ cap' = cap := by
          simp only [Value.slice.injEq, Option.some.injEq, Addr.mk.injEq, and_true] at hv'
          exact ⟨hv'.1.symm, hv'.2.2.symm⟩
        clear hv'
        have hpre := Own.prefix' Sess.cells_len HO.out (i := i) (by omega)
        rw [hfin] at hpre
        have hnp : i = (l.filter (stays now)).length := by rw [← hfin, List.length_take]; omega
        by_cases hil : i = l.length
        · have hcl : ∀ ty a c, (Builtin.clear_ #[22] ty #[.slice a 0 c]).run Try.prog wr = .ok (.tuple #[]) wr := fun ty a c => by
            cases a <;> simp [Builtin.clear_, run_underlying Try.underlying22]
          have Hnp := Lib.hid hnp
          have Hpre := Lib.hid hpre
          clear hcs hfz hnp hpre hfin
          subst hil
          by_cases hce : cap' = l.length
          · subst hce
            go_wp2_with (simp only [hcl])
            go_ret
            exact ⟨_, rfl, Hpre.out, hb⟩
          · go_wp2_with (simp only [hcl])
            go_ret
            exact ⟨_, rfl, Hpre.out, hb⟩
        · have hlt2 : i < l.length := by omega
          have hcl : ∀ ty, (Builtin.clear_ #[22] ty #[.slice (some ⟨g', i * 5, none⟩) (l.length - i) (cap' - i)]).run Try.prog wr = .ok (.tuple #[]) (wr.setCells g' (i * 5) (Builtin.zeroCells #[.int .i64 0, .string ⟨#[]⟩, .string ⟨#[]⟩, .int .i64 0, .int .i64 0] (l.length - i)).toList) := fun ty =>
            run_clear_rows (sz := 5) Try.underlying22 zeroSess rfl (by intro u hu; simp [Value.cells] at hu; rcases hu with rfl | rfl | rfl | rfl | rfl <;> rfl) (fun r hr => hcs (i * 5 + r) (by omega)) (fun r _ => hfz (i * 5 + r))
          have hlast : Own Sess.cells 44 5 (wr.setCells g' (i * 5) (Builtin.zeroCells #[.int .i64 0, .string ⟨#[]⟩, .string ⟨#[]⟩, .int .i64 0, .int .i64 0] (l.length - i)).toList) base (.slice (some ⟨g', 0, none⟩) i cap') (l.filter (stays now)) := by
            unfold Own at hpre ⊢
            rw [← hnp] at hpre ⊢
            exact own_setCells_out _ _ _ hpre (Nat.le_refl _)
          have hW : Below base wr (wr.setCells g' (i * 5) (Builtin.zeroCells #[.int .i64 0, .string ⟨#[]⟩, .string ⟨#[]⟩, .int .i64 0, .int .i64 0] (l.length - i)).toList) := below_setCells (by omega) _ _ _ (Below.refl _ _)
          have HL := Lib.hid hlast
          clear hcs hfz hnp hpre hfin hlast
          generalize (wr.setCells g' (i * 5) (Builtin.zeroCells #[.int .i64 0, .string ⟨#[]⟩, .string ⟨#[]⟩, .int .i64 0, .int .i64 0] (l.length - i)).toList) = w9 at *
          have hne : ¬ cap' = i := by omega
          go_wp2_with (simp only [hcl])
          go_ret
          exact ⟨_, rfl, HL.out, hb.trans hW⟩
end Go.Proofs.Ytdcigjpanpcaaaa
