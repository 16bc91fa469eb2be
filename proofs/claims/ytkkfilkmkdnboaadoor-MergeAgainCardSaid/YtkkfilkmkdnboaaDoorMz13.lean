import Derived.Test.YtkkfilkmkdnboaaDoorMz12
import Derived.RangeFuncNested
import Derived.RangeFuncBound
import Derived.RangeFuncCalls
import Derived.RangeFuncLeaves
import Derived.Shelf.Abstract
import Derived.Shelf.RegionOpen
import Derived.WalkKit
import Derived.OwnWalkIn
import Derived.TacticsInMore
import Derived.LoopNIn
import Derived.LoopIn
import Derived.Test.YtkkfilkmkdnboaaDoorMz5
/- Paths, 2: the iterator over a path's names, in the machine's own words. -/
set_option linter.unusedSimpArgs false
set_option linter.unnecessarySimpa false
namespace Go.Proofs.YtkkfilkmkdnboaaDoor
open Go.Ab Go.RowKit Go.Shelf
set_option maxRecDepth 10000
attribute [local go_sem] Oper.semAt_some

abbrev strV (s : Str) : Value := .string ⟨s.toArray⟩
abbrev ptrV (b : Nat) : Value := .pointer (some ⟨b, 0, none⟩)

theorem splitSeq_any (p : Str) (w : World) : Calls Tryd.prog 133 #[strV p, strV slash, .int .i64 0] w fun e w' =>
    e = .returned (.func (.func 151) #[] #[ptrV (w.heap.size + 1), ptrV w.heap.size, ptrV (w.heap.size + 2)]) ∧ w' = ((w.alloc (.cells #[strV p] 9)).alloc (.cells #[strV slash] 9)).alloc (.cells #[.int .i64 0] 3) := by
  go_enter Tryd.func133, Tryd.ntmps133
  go_wp2
  go_ret
  refine ⟨rfl, rfl⟩

theorem SplitSeq_any (p : Str) (w : World) : Calls Tryd.prog 108 #[strV p, strV slash] w fun e w' =>
    e = .returned (.func (.func 151) #[] #[ptrV (w.heap.size + 1), ptrV w.heap.size, ptrV (w.heap.size + 2)]) ∧ w' = ((w.alloc (.cells #[strV p] 9)).alloc (.cells #[strV slash] 9)).alloc (.cells #[.int .i64 0] 3) := by
  go_enter Tryd.func108, Tryd.ntmps108
  go_wp2_with (go_at_call 133; refine (splitSeq_any _ _).mono ?_; rintro e w' ⟨rfl, rfl⟩)
  go_ret
  refine ⟨rfl, rfl⟩

theorem indexByte_any (s : Str) (c : UInt8) (w : World) : Calls Tryd.prog 154 #[strV s, .int .u8 (c.toNat : Int)] w fun e w' => e = .returned (.int .i64 (Lib.indexByte s c)) ∧ w' = w := by
  go_enter Tryd.func154, Tryd.ntmps154
  go_wp2
  rw [run_callFunc_extern Tryd.func168 (by kernel_rfl) (by kernel_rfl) (by kernel_rfl) (e := Extern.BytealgIndexByte.indexByte) (by kernel_rfl), Lib.run_indexByteString]
  simp only [Result.andThen]
  rw [Oper.upon_value]
  go_wp2
  go_ret
  refine ⟨?_, rfl⟩
  simp
theorem indexL_any (s : Str) (w : World) : Calls Tryd.prog 167 #[strV s, strV slash] w fun e w' => e = .returned (.int .i64 (Lib.indexByte s 47)) ∧ w' = w := by
  show Calls _ _ #[strV s, .string ⟨#[47]⟩] w _
  go_enter Tryd.func167, Tryd.ntmps167
  go_wp2_with (go_at_call 154; refine (indexByte_any s 47 _).mono ?_; rintro e w' ⟨rfl, rfl⟩)
  · go_ret
    refine ⟨?_, rfl⟩
    have e : ([47] : Str) = s := by first | assumption | (simp_all; done)
    subst e
    rfl
  · go_ret
    exact ⟨rfl, rfl⟩
theorem index_any (s : Str) (w : World) : Calls Tryd.prog 153 #[strV s, strV slash] w fun e w' => e = .returned (.int .i64 (Lib.indexByte s 47)) ∧ w.grownBy w' none := by
  go_enter Tryd.func153, Tryd.ntmps153
  go_wp2_with (go_at_call 167; refine (indexL_any _ _).mono ?_; rintro e w' ⟨rfl, rfl⟩)
  go_ret
  exact ⟨rfl, ⟨rfl, rfl, rfl, Nat.le_refl _, fun _ _ _ => rfl⟩⟩

/-- Where the first sign stands. -/
theorem first_slash (s : Str) : (Lib.indexByte s 47 = -1 ∧ (47 : UInt8) ∉ s) ∨ ∃ a b, s = a ++ 47 :: b ∧ (47 : UInt8) ∉ a ∧ Lib.indexByte s 47 = a.length := by
  induction s with
  | nil => exact .inl ⟨rfl, by simp⟩
  | cons c s ih =>
    by_cases hc : c = 47
    · subst hc; exact .inr ⟨[], s, rfl, by simp, by simp [Lib.indexByte]⟩
    · rcases ih with ⟨h1, h2⟩ | ⟨a, b, h1, h2, h3⟩
      · exact .inl ⟨by simp [Lib.indexByte, hc, h1], by simp only [List.mem_cons, not_or]; exact ⟨fun e => hc e.symm, h2⟩⟩
      · refine .inr ⟨c :: a, b, by simp [h1], by simp only [List.mem_cons, not_or]; exact ⟨fun e => hc e.symm, h2⟩, ?_⟩
        have : ¬ Lib.indexByte s 47 = -1 := by omega
        simp [Lib.indexByte, hc, this, h3]

theorem cell_of {W : World} {b T : Nat} {v : Value} (h : W.heap[b]? = some (.cells #[v] T (0, 0))) : W.cell? ⟨b, 0, none⟩ = some v ∧ W.frozen? ⟨b, 0, none⟩ = false := by simp [World.cell?, World.frozen?, h]
theorem kept {A B : World} {k : Nat} {o : Obj} (hg : A.grownBy B Option.none) (h : A.heap[k]? = some o) : B.heap[k]? = some o := (hg.block k (Array.getElem?_eq_some_iff.1 h).1 (by simp)).trans h
theorem _root_.Go.World.grownBy.weaken {A B : World} (h : A.grownBy B Option.none) (r : Option Nat) : A.grownBy B r := ⟨h.os, h.tape, h.output, h.size, fun k hk _ => h.block k hk (by simp)⟩
theorem wrap64_in {x : Int} (h1 : 0 ≤ x) (h2 : x ≤ 9223372036854775807) : wrap64 x = x := IntWalk.wrap64_in x ⟨by omega, by omega⟩
theorem extract_str (l : List UInt8) (a b : Nat) : ByteArray.extract ⟨l.toArray⟩ a b = ⟨((l.take b).drop a).toArray⟩ := by
  have h : (ByteArray.extract ⟨l.toArray⟩ a b).data = ((l.take b).drop a).toArray := by simp [List.drop_take]
  calc ByteArray.extract ⟨l.toArray⟩ a b = ⟨(ByteArray.extract ⟨l.toArray⟩ a b).data⟩ := rfl
    _ = _ := by rw [h]
theorem heap_set {W : World} {b T : Nat} {v : Value} (h : W.heap[b]? = some (.cells #[v] T (0, 0))) (u : Value) : (W.setCell ⟨b, 0, none⟩ u).heap[b]? = some (.cells #[u] T (0, 0)) := by
  obtain ⟨hlt, hb⟩ := Array.getElem?_eq_some_iff.1 h
  show (W.heap.modify b _)[b]? = _
  rw [Array.getElem?_eq_getElem (by rw [Array.size_modify]; exact hlt), Array.getElem_modify_self, hb]
  rfl
theorem heap_set_ne (W : World) {b k : Nat} (u : Value) (h : k ≠ b) : (W.setCell ⟨b, 0, none⟩ u).heap[k]? = W.heap[k]? := Below.heap_setCell W ⟨b, 0, none⟩ u k h
/-- How much text is left. -/
def leftAt (S : Nat) (w : World) : Nat := match w.cell? ⟨S, 0, none⟩ with | some (.string s) => s.size | _ => 0
theorem split_iter (n : Nat) (hn : 1 ≤ n) (p : Str) (hp : p.length ≤ 140737488355328) (w0 : World) (S : Nat) (h0 : w0.heap[S]? = some (.cells #[strV p] 9 (0, 0))) (h1 : w0.heap[S + 1]? = some (.cells #[strV slash] 9 (0, 0))) (h2 : w0.heap[S + 2]? = some (.cells #[.int .i64 0] 3 (0, 0))) :
    CellIter Fence.wide n Tryd.prog 151 #[ptrV (S + 1), ptrV S, ptrV (S + 2)] S (namesOf p) w0 := by
  intro l J Jx W hW hJ hJx hY hJ0
  have hS : W.heap[S]? = some (.cells #[strV p] 9 (0, 0)) := (hW S (by omega) (by omega)).trans h0
  have hS1 : W.heap[S + 1]? = some (.cells #[strV slash] 9 (0, 0)) := (hW (S + 1) (by omega) (by omega)).trans h1
  have hS2 : W.heap[S + 2]? = some (.cells #[.int .i64 0] 3 (0, 0)) := (hW (S + 2) (by omega) (by omega)).trans h2
  have c1 := (cell_of hS1).1
  have hsl : List.length slash = 1 := rfl
  refine callsIn_of_wp Tryd.func151 rfl trivial ?_ rfl
  simp only [Tryd.ntmps151, List.size_toArray, List.length_cons, List.length_nil, Nat.reduceAdd, Nat.reduceSub, Array.replicate_succ, Array.replicate_zero, List.push_toArray, List.append_toArray, List.cons_append, List.nil_append]
  gi_wp2
  gi_loopw [7] (fun _ wr => ∃ (pre : List Str) (rest : Str), namesOf p = pre ++ namesOf rest ∧ rest.length ≤ p.length ∧ wr.heap[S]? = some (.cells #[strV rest] 9 (0, 0)) ∧ wr.heap[S + 1]? = some (.cells #[strV slash] 9 (0, 0)) ∧ wr.heap[S + 2]? = some (.cells #[.int .i64 0] 3 (0, 0)) ∧ J pre wr) (fun _ wr => leftAt S wr)
  case atStart => exact ⟨[], p, rfl, Nat.le_refl _, hS, hS1, hS2, hJ0⟩
  case round =>
    obtain ⟨pre, rest, hx, hlen, hb, hb1, hb2, hJs⟩ := hrel
    have c0 := (cell_of hb).1
    have c1 := (cell_of hb1).1
    have c2 := (cell_of hb2).1
    rcases first_slash rest with ⟨hm, hfree⟩ | ⟨a, b, rfl, hfa, hi⟩
    · have hpre : pre ++ [rest] <+: namesOf p := by rw [hx, namesOf_one hfree]; exact List.prefix_refl _
      gi_wp2_with (refine ⟨trivial, ?_⟩; gi_at_call 153; refine (callsIn_wide.2 (index_any _ _)).mono ?_; rintro e w1 ⟨rfl, hg⟩; have hd0 := kept hg hb; have hd1 := kept hg hb1; have hd2 := kept hg hb2; have d0 := (cell_of hd0).1; have d1 := (cell_of hd1).1; have d2 := (cell_of hd2).1; obtain ⟨fn, tmps, assign, body, hy, hR⟩ := hY pre rest w1 (hJ _ _ _ hJs (hg.weaken _)) hpre)
      refine hR.mono ?_
      rintro e W' (⟨rfl, hJ', hk⟩ | ⟨rfl, hJx'⟩)
      · gi_wp2
        go_end0
        exact ⟨⟨_, rfl⟩, .inl (by rw [hx, namesOf_one hfree]; exact hJ')⟩
      · gi_wp2
        go_end0
        exact ⟨⟨_, rfl⟩, .inr ⟨_, hpre, hJx'⟩⟩
    · have hpre : pre ++ [a] <+: namesOf p := by rw [hx, namesOf_cons b hfa]; exact ⟨namesOf b, by simp⟩
      have hw1 : wrap64 (a.length : Int) = a.length := wrap64_in (by omega) (by simp at hlen; omega)
      have hw2 : wrap64 ((a.length : Int) + 1) = a.length + 1 := wrap64_in (by omega) (by simp at hlen; omega)
      have hs1 := extract_str (a ++ 47 :: b) 0 a.length
      have hs3 : ({ data := List.toArray (a ++ 47 :: b) } : ByteArray).extract (a.length + 1) (a.length + (b.length + 1)) = ⟨b.toArray⟩ := by
        rw [extract_str, List.take_of_length_le (by simp), List.drop_append, List.drop_of_length_le (by omega), List.nil_append, show a.length + 1 - a.length = 1 from by omega]; rfl
      have hs2 := extract_str (a ++ 47 :: b) (a.length + 1) (a ++ 47 :: b).length
      gi_wp2_with (refine ⟨trivial, ?_⟩; gi_at_call 153; refine (callsIn_wide.2 (index_any _ _)).mono ?_; rintro e w1 ⟨rfl, hg⟩; have hd0 := kept hg hb; have hd1 := kept hg hb1; have hd2 := kept hg hb2; have d0 := (cell_of hd0).1; have d1 := (cell_of hd1).1; have d2 := (cell_of hd2).1; obtain ⟨fn, tmps, assign, body, hy, hR⟩ := hY pre a w1 (hJ _ _ _ hJs (hg.weaken _)) hpre)
      refine hR.mono ?_
      rintro e W' (⟨rfl, hJ', hk⟩ | ⟨rfl, hJx'⟩)
      · have he0 := (hk S (by omega) (by omega)).trans hd0
        have he1 := (hk (S + 1) (by omega) (by omega)).trans hd1
        have he2 := (hk (S + 2) (by omega) (by omega)).trans hd2
        have e0 := (cell_of he0).1
        have e1 := (cell_of he1).1
        have e2 := (cell_of he2).1
        have f0 := (cell_of he0).2
        gi_wp2
        go_roundw
        case rel => exact ⟨pre ++ [a], b, by rw [hx, namesOf_cons b hfa]; simp, by simp at hlen; omega, heap_set he0 _, (heap_set_ne W' _ (by omega)).trans he1, (heap_set_ne W' _ (by omega)).trans he2, hJ _ _ _ hJ' (grownBy_setCell' W' S _)⟩
        case measure =>
          simp [leftAt, (cell_of (heap_set he0 (strV b))).1, c0, ByteArray.size]
          omega
      · gi_wp2
        refine bodyPost_ret (results_none rfl _ _ _) rfl ?_
        exact ⟨⟨_, rfl⟩, .inr ⟨_, hpre, hJx'⟩⟩
end Go.Proofs.YtkkfilkmkdnboaaDoor

/- Paths, 3: check of some paths: a range over a function within a loop, in the machine's own words. -/
set_option linter.unusedSimpArgs false
set_option linter.unnecessarySimpa false
namespace Go.Proofs.YtkkfilkmkdnboaaDoor
open Go.Ab Go.RowKit Go.Shelf
set_option maxRecDepth 10000
attribute [local go_sem] Oper.semAt_some

def strRow (s : Str) : List AV := [.v (str s)]
abbrev mk (D : Nat) : Deferred := { target := .collected D, args := #[] }
theorem count_any (s : Str) (w : World) : Calls Tryd.prog 136 #[strV s, strV slash] w fun e w' => e = .returned (.int .i64 (s.count 47 : Nat)) ∧ w' = w := by
  show Calls _ _ #[strV s, .string ⟨#[47]⟩] w _
  go_enter Tryd.func136, Tryd.ntmps136
  go_wp2
  rw [run_callFunc_extern Tryd.func156 (by kernel_rfl) (by kernel_rfl) (by kernel_rfl) (e := Extern.BytealgCount.count) (by kernel_rfl), Lib.run_countString]
  simp only [Result.andThen]
  rw [Oper.upon_value]
  go_wp2
  go_ret
  refine ⟨?_, rfl⟩
  simp [Lib.countByte]
  rfl
theorem great_any (s : Str) (w : World) : Calls Tryd.prog 110 #[strV s] w fun e w' => e = .returned (.bool (tooGreat s)) ∧ w.grownBy w' none := by
  have htg := tooGreat_count s
  have hg0 : w.grownBy w none := ⟨rfl, rfl, rfl, Nat.le_refl _, fun _ _ _ => rfl⟩
  go_enter Tryd.func110, Tryd.ntmps110
  go_wp2_with (go_at_call 136; refine (count_any s _).mono ?_; rintro e w' ⟨rfl, rfl⟩)
  all_goals go_ret
  all_goals (refine ⟨?_, hg0⟩)
  · show Ending.returned (Value.bool _) = _
    try rw [htg]
    congr 2
    rw [Bool.eq_iff_iff]
    simp
    omega
  · show Ending.returned (Value.bool true) = _
    try rw [htg]
    congr 2
    have h6 : 6 ≤ s.count 47 := by first | omega | (simp_all; done) | (simp_all; omega)
    simp [h6]

/-- A function that leaves with marks alone among its deferred calls. -/
theorem leaves_marks {F : Fence} {n : Nat} {P : Program} {fn : Func} {tmps : Array Value} {R : Ending → World → Prop} : ∀ (Ds : List Nat) (W : World), Ds.Nodup → (∀ D, D ∈ Ds → W.heap[D]? = some (.deferred (some []))) →
    (∀ W', W.heap.size = W'.heap.size → W'.os = W.os → W'.tape = W.tape → W'.output = W.output → (∀ k, k ∉ Ds → W'.heap[k]? = W.heap[k]?) → LeavesInM F n P fn tmps R [] .returning W') → LeavesInM F n P fn tmps R (Ds.map mk) .returning W
  | [], W, _, _, h => h W rfl rfl rfl rfl fun _ _ => rfl
  | D :: Ds, W, hn, hd, h => by
    obtain ⟨h1, h2⟩ := List.nodup_cons.1 hn
    have hK := hd D (by simp)
    refine ⟨by simp, .inl ⟨D, _, rfl, run_takeDeferred hK, leaves_marks Ds _ h2 (fun D' hD' => (World.putObj_heap_other (by rintro rfl; exact h1 hD')).trans (hd D' (by simp [hD']))) fun W' a1 a2 a3 a4 a5 => ?_⟩⟩
    refine h W' (by rw [← a1]; simp) a2 a3 a4 fun k hk => ?_
    simp only [List.mem_cons, not_or] at hk
    exact (a5 k hk.2).trans (World.putObj_heap_other hk.1)

/-- What holds between two rounds of the outer loop. -/
structure ChkW (w : World) (e : Int) (Ds : List Nat) (W : World) : Prop where
  below : Below w.heap.size w W
  cell : W.heap[w.heap.size]? = some (.cells #[.int .i64 e] 27 (0, 0))
  marks : ∀ D, D ∈ Ds → w.heap.size < D ∧ W.heap[D]? = some (.deferred (some []))
theorem ChkW.grown {w : World} {e : Int} {Ds : List Nat} {W W' : World} {row : Option Nat} (h : ChkW w e Ds W) (hg : W.grownBy W' row) (hr : ∀ r, row = some r → w.heap.size < r ∧ r ∉ Ds) : ChkW w e Ds W' := by
  have hlt := (Array.getElem?_eq_some_iff.1 h.cell).1
  refine ⟨h.below.grown hg (by omega) (fun k e => by have := (hr k e).1; omega), (hg.block _ hlt (fun e => by have := (hr _ e.symm).1; omega)).trans h.cell, fun D hD => ⟨(h.marks D hD).1, ?_⟩⟩
  exact (hg.block D (Array.getElem?_eq_some_iff.1 (h.marks D hD).2).1 (fun e => (hr _ e.symm).2 hD)).trans (h.marks D hD).2
theorem ChkW.lt {w : World} {e : Int} {Ds : List Nat} {W : World} (h : ChkW w e Ds W) : w.heap.size < W.heap.size := (Array.getElem?_eq_some_iff.1 h.cell).1
theorem ChkW.mlt {w : World} {e : Int} {Ds : List Nat} {W : World} (h : ChkW w e Ds W) : ∀ D, D ∈ Ds → D < W.heap.size := fun D hD => (Array.getElem?_eq_some_iff.1 (h.marks D hD).2).1
theorem ChkW.set {w : World} {e : Int} {Ds : List Nat} {W : World} (h : ChkW w e Ds W) (e' : Int) : ChkW w e' Ds (W.setCell ⟨w.heap.size, 0, Option.none⟩ (.int .i64 e')) :=
  ⟨h.below.setCell (Nat.le_refl _) _, heap_set h.cell _, fun D hD => ⟨(h.marks D hD).1, (heap_set_ne W _ (by have := (h.marks D hD).1; omega)).trans (h.marks D hD).2⟩⟩

theorem leaves_check {n : Nat} {tmps : Array Value} {w W : World} {e : Int} {Ds : List Nat} (h : ChkW w e Ds W) (hn : Ds.Nodup) (ht : tmps.getD 2 undef = .pointer (some ⟨w.heap.size, 0, Option.none⟩)) :
    LeavesInM Fence.wide n Tryd.prog Tryd.f84 tmps (fun en w' => en = .returned (.int .i64 e) ∧ w.grownBy w' Option.none) (Ds.map mk) .returning W := by
  refine leaves_marks Ds W hn (fun D hD => (h.marks D hD).2) fun W' a1 a2 a3 a4 a5 => ?_
  have hc : W'.heap[w.heap.size]? = some (.cells #[.int .i64 e] 27 (0, 0)) := (a5 _ (fun hm => absurd (h.marks _ hm).1 (Nat.lt_irrefl _))).trans h.cell
  have hcell := (cell_of hc).1
  refine ⟨.int .i64 e, ?_, rfl, ⟨a2.trans h.below.os, a3.trans h.below.tape, a4.trans h.below.output, by have := h.below.size; omega, fun k hk _ => (a5 k (fun hm => by have := (h.marks k hm).1; omega)).trans (h.below.block k hk)⟩⟩
  simp only [Array.getD_eq_getD_getElem?] at ht
  simp [results, Tryd.results84, go_sem, ht, hcell]

theorem mark_new {w W X : World} {e e' : Int} {Ds : List Nat} {D : Nat} (hW : ChkW w e Ds W) (hnd : Ds.Nodup) (hX : ChkW w e' Ds X) (hK : X.heap[D]? = some (.deferred (some []))) (hD : W.heap.size ≤ D) :
    ChkW w e' (D :: Ds) X ∧ (D :: Ds).Nodup ∧ mk D :: Ds.map mk = (D :: Ds).map mk := by
  have := hW.lt
  refine ⟨⟨hX.below, hX.cell, fun D' hD' => ?_⟩, List.nodup_cons.2 ⟨fun hm => by have := hW.mlt _ hm; omega, hnd⟩, rfl⟩
  rcases List.mem_cons.1 hD' with rfl | h
  · exact ⟨by omega, hK⟩
  · exact hX.marks D' h
theorem namesOf_short {p n : Str} (h : n ∈ namesOf p) : n.length ≤ p.length := by
  induction p generalizing n with
  | nil => simp [namesOf] at h; subst h; simp
  | cons c s ih =>
    simp only [namesOf] at h
    split at h
    · rcases List.mem_cons.1 h with rfl | h
      · simp
      · have := ih h; simp; omega
    · split at h
      · simp at h; subst h; simp
      · rename_i m l hm
        rcases List.mem_cons.1 h with rfl | h
        · have := ih (n := m) (by rw [hm]; simp); simp; omega
        · have := ih (n := n) (by rw [hm]; simp [h]); simp; omega
theorem pathsErr_at {ps : List Str} {i : Nat} (h : i < ps.length) : pathsErr (ps.drop i) = if pathErr ps[i] = 0 then pathsErr (ps.drop (i + 1)) else pathErr ps[i] := by
  rw [List.drop_eq_getElem_cons h]; rfl

theorem check_any (ps : List Str) (hps : ps.length ≤ 1000000) (hsz : ∀ p, p ∈ ps → p.length ≤ 140737488355328) (A : Option Addr) (cap : Nat) (w : World)
    (hA : ∀ i (h : i < ps.length), ∃ bb off, A = some ⟨bb, off, Option.none⟩ ∧ bb < w.heap.size ∧ w.cell? ⟨bb, off + i, Option.none⟩ = some (strV ps[i])) :
    Calls Tryd.prog 84 #[.slice A ps.length cap] w fun e w' => e = .returned (.int .i64 (pathsErr ps)) ∧ w.grownBy w' Option.none := by
  refine (callsIn_wide (n := 10)).1 ?_
  refine callsIn_of_wp_marks Tryd.func84 rfl trivial ?_ rfl
  simp only [Tryd.ntmps84, List.size_toArray, List.length_cons, List.length_nil, Nat.reduceAdd, Nat.reduceSub, Array.replicate_succ, Array.replicate_zero, List.push_toArray, List.append_toArray, List.cons_append, List.nil_append]
  gi_wp2
  refine wpIn_loop (fun a W => ∃ (i : Nat) (Ds : List Nat) (u4 u5 u9 u10 u11 u12 u13 u14 u15 u16 u17 u18 u19 u20 : Value), i ≤ ps.length ∧ pathsErr ps = pathsErr (ps.drop i) ∧ Ds.Nodup ∧ ChkW w 0 Ds W ∧
    a = { tmps := #[.slice A ps.length cap, undef, .pointer (some ⟨w.heap.size, 0, Option.none⟩), undef, u4, u5, .slice A ps.length cap, .int .i64 ps.length, .int .i64 i, u9, u10, u11, u12, u13, u14, u15, u16, u17, u18, u19, u20], defers := Ds.map mk })
    (fun a _ => ps.length - (intOf (a.tmps.getD 8 undef)).toNat) ⟨0, [], undef, undef, undef, undef, undef, undef, undef, undef, undef, undef, undef, undef, undef, undef, Nat.zero_le _, rfl, List.nodup_nil, ?start, rfl⟩ ?round
  case start => exact ⟨(Below.refl _ w).alloc (Nat.le_refl _) _, World.alloc_heap_new w _, nofun⟩
  case round =>
    rintro a W ⟨i, Ds, u4, u5, u9, u10, u11, u12, u13, u14, u15, u16, u17, u18, u19, u20, hi, herr, hnd, hW, rfl⟩
    have hlt0 := hW.lt
    have cE := (cell_of hW.cell).1
    have fE := (cell_of hW.cell).2
    by_cases hlt : i < ps.length
    · obtain ⟨bb, off, hAA, hbb, hcell⟩ := hA i hlt
      subst hAA
      have hc : W.cell? ⟨bb, off + i, Option.none⟩ = some (strV ps[i]) := by rw [World.cell?_of_block (hW.below.block bb hbb)]; exact hcell
      gi_wp2_with (refine ⟨trivial, ?_⟩; gi_at_call 108; refine (callsIn_wide.2 (SplitSeq_any _ _)).mono ?_; rintro e w' ⟨rfl, rfl⟩)
      have hst : ∀ e (X Y : World) row, ChkW w e Ds X → X.grownBy Y row → (∀ r, row = some r → W.heap.size ≤ r) → ChkW w e Ds Y := fun e X Y row hX hg hr => hX.grown hg fun r e => by
        have h1 := hr r e
        exact ⟨by omega, fun hm => by have := hW.mlt r hm; omega⟩
      have hpi := hsz ps[i] (List.getElem_mem hlt)
      have hW3 : ChkW w 0 Ds (((W.alloc (.cells #[strV ps[i]] 9)).alloc (.cells #[strV slash] 9)).alloc (.cells #[.int .i64 0] 3)) := hst 0 _ _ Option.none hW ⟨rfl, rfl, rfl, by simp; omega, fun k hk _ => ((Below.heap_alloc _ _ k (by simp; omega)).trans (Below.heap_alloc _ _ k (by simp; omega))).trans (Below.heap_alloc _ _ k hk)⟩ nofun
      refine wpIn_rangeFunc_cell (F := Fence.wide) rfl (by decide) (gf := 151) (lb := #[ptrV (W.heap.size + 1), ptrV W.heap.size, ptrV (W.heap.size + 2)]) rfl trivial (enters_of Tryd.func151 (by kernel_rfl) rfl) (S := W.heap.size) (names := namesOf ps[i]) (by simp) (split_iter _ (by decide) ps[i] hpi _ _ ?s0 ?s1 ?s2) rfl
        (fun pre X => (∀ x, x ∈ pre → isName x = true) ∧ ChkW w 0 Ds X) (fun pre X => (∃ x, x ∈ pre ∧ isName x = false) ∧ ChkW w 1 Ds X)
        (fun s X Y row h hg hr => ⟨h.1, hst 0 X Y row h.2 hg hr⟩) (fun s X Y row h hg hr => ⟨h.1, hst 1 X Y row h.2 hg hr⟩) ⟨nofun, hW3⟩
        (fun x => { tmps := #[.slice (some ⟨bb, off, Option.none⟩) ps.length cap, undef, .pointer (some ⟨w.heap.size, 0, Option.none⟩), undef, strV ps[i], strV x, .slice (some ⟨bb, off, Option.none⟩) ps.length cap, .int .i64 ps.length, .int .i64 i, .bool true, .pointer (some ⟨bb, off + i, Option.none⟩), strV ps[i], strV ps[i], .func (.func 151) #[] #[ptrV (W.heap.size + 1), ptrV W.heap.size, ptrV (W.heap.size + 2)], strV x, u15, u16, u17, u18, u19, u20], defers := [] }) ?assign ?body ?done ?stop
      case s0 => exact (Below.heap_alloc _ _ _ (by simp; omega)).trans ((Below.heap_alloc _ _ _ (by simp)).trans (World.alloc_heap_new W _))
      case s1 => exact (Below.heap_alloc _ _ _ (by simp)).trans (by have := World.alloc_heap_new (W.alloc (.cells #[strV ps[i]] 9)) (.cells #[strV slash] 9); rwa [World.size_alloc] at this)
      case s2 => exact (by have := World.alloc_heap_new ((W.alloc (.cells #[strV ps[i]] 9)).alloc (.cells #[strV slash] 9)) (.cells #[.int .i64 0] 3); rwa [World.size_alloc, World.size_alloc] at this)
      case assign =>
        intro l x X K hK
        gi_wp2
        exact hK
      case body =>
        rintro l pre x X ⟨hpre, hX⟩ hpx hsX
        have hxn : x ∈ namesOf ps[i] := hpx.subset (by simp)
        have hxl : x.length ≤ 9223372036854775807 := by have := namesOf_short hxn; omega
        have cX := (cell_of hX.cell).1
        have fX := (cell_of hX.cell).2
        cases hb : isName x
        · gi_wp2_with (refine ⟨trivial, ?_⟩; gi_at_call 109; refine (CallsIn.inRound l (callsIn_wide.2 (isName_any x _ hxl))).mono ?_; rintro e w1 ⟨rfl, rfl⟩)
          exact ⟨⟨by simp [World.setCell], fun k hk hle => heap_set_ne X _ (by omega)⟩, ⟨x, by simp, hb⟩, hX.set 1⟩
        · gi_wp2_with (refine ⟨trivial, ?_⟩; gi_at_call 109; refine (CallsIn.inRound l (callsIn_wide.2 (isName_any x _ hxl))).mono ?_; rintro e w1 ⟨rfl, rfl⟩)
          exact ⟨⟨Nat.le_refl _, fun _ _ _ => rfl⟩, fun y hy => (List.mem_append.1 hy).elim (hpre y) (fun e => by rw [List.mem_singleton.1 e]; exact hb), hX⟩
      case done =>
        rintro X ⟨hpre, hX⟩ hK
        obtain ⟨hX', hnd', -⟩ := mark_new hW hnd hX (D := W.heap.size + 3) (by simpa using hK) (by omega)
        have hall : (namesOf ps[i]).all isName = true := List.all_eq_true.2 hpre
        cases hgt : tooGreat ps[i]
        · have hpe : pathErr ps[i] = 0 := by simp [pathErr, hall, hgt]
          gi_wp2_with (refine ⟨trivial, ?_⟩; gi_at_call 110; refine (callsIn_wide.2 (great_any _ _)).mono ?_; rintro e w1 ⟨rfl, hg⟩; have hY := hX'.grown hg nofun)
          refine ⟨⟨i + 1, (W.heap.size + 3) :: Ds, _, _, _, _, _, _, _, _, _, _, _, _, _, _, by omega, by rw [herr, pathsErr_at hlt, hpe]; rfl, hnd', hY, rfl⟩, ?_⟩
          simp [intOf]
          omega
        · have hpe : pathErr ps[i] = 2 := by simp [pathErr, hall, hgt]
          have hz : pathsErr ps = 2 := by rw [herr, pathsErr_at hlt, hpe]; rfl
          gi_wp2_with (refine ⟨trivial, ?_⟩; gi_at_call 110; refine (callsIn_wide.2 (great_any _ _)).mono ?_; rintro e w1 ⟨rfl, hg⟩; have hY := hX'.grown hg nofun; have cY := (cell_of hY.cell).1; have fY := (cell_of hY.cell).2)
          rw [hz]
          exact leaves_check (hY.set 2) hnd' rfl
      case stop =>
        rintro pre X hpre ⟨⟨x, hx, hb⟩, hX⟩ hK
        obtain ⟨hX', hnd', -⟩ := mark_new hW hnd hX (D := W.heap.size + 3) (by simpa using hK) (by omega)
        have hall : ¬ (namesOf ps[i]).all isName = true := fun h => by
          have := List.all_eq_true.1 h x (hpre.subset hx)
          rw [hb] at this; cases this
        have hpe : pathErr ps[i] = 1 := by simp only [pathErr, hall]; rfl
        have hz : pathsErr ps = 1 := by rw [herr, pathsErr_at hlt, hpe]; rfl
        gi_wp2
        rw [hz]
        simp only [World.size_alloc]
        exact leaves_check hX' hnd' rfl
    · have hz : pathsErr ps = 0 := by rw [herr, List.drop_of_length_le (by omega)]; rfl
      gi_wp2
      rw [hz]
      exact leaves_check (hW.set 0) hnd rfl

/-- check, in the abstract layer. -/
theorem a_check (ps : List Str) (hps : ps.length ≤ 1000000) (hsz : ∀ p, p ∈ ps → p.length ≤ 140737488355328) : AFn C.P 84 [.sl false (ps.map strRow)] (.v (.int .i64 (pathsErr ps))) := by
  refine afn_of_conc rfl fun F ρ vs w hag hl hm => ?_
  obtain ⟨v, rfl⟩ : ∃ v, vs = [v] := by
    match vs, hl with
    | [v], _ => exact ⟨v, rfl⟩
  have h1 := hm 0 v _ rfl rfl
  rcases h1.sl_inv with ⟨h0, ad, cap, hv, _⟩ | ⟨b, o, cap, c, e', fr, kk, hb, _, _, hsz', hkk, hR, hv⟩
  · have hnil : ps = [] := List.map_eq_nil_iff.1 h0
    subst hnil
    rw [hv]
    exact check_any [] hps hsz ad cap w (fun i h => absurd h (Nat.not_lt_zero _))
  · rw [hv]
    have hk1 : ∀ i, i < ps.length → kk = 1 := fun i hi => (hkk _ (List.getElem_mem (l := ps.map strRow) (n := i) (by simpa using hi))).symm.trans (by simp [strRow])
    have hbw := hag b _ hb
    have := check_any ps hps hsz (some ⟨b, o, Option.none⟩) cap w (fun i hi => ⟨b, o, rfl, (Array.getElem?_eq_some_iff.1 hbw).1, ?_⟩)
    · rw [List.length_map]; exact this
    · have hk := hk1 i hi
      subst hk
      have hlt : o + i < c.size := by simp at hsz'; omega
      have hcv : c[o + i]? = some c[o + i] := Array.getElem?_eq_getElem hlt
      have hrow : (ps.map strRow)[i]? = some (strRow ps[i]) := by simp [hi]
      have hMv := hR i 0 (strRow ps[i]) (.v (str ps[i])) c[o + i] hrow rfl (by simpa using hcv)
      have := hMv.v_inv.1
      simp [World.cell?, hbw, hcv, this, str]
end Go.Proofs.YtkkfilkmkdnboaaDoor

/- Paths in the abstract layer, 4: the last sign; Split, Parent, Name, Join, In, Within, Moved. -/
set_option linter.unusedSimpArgs false
set_option linter.unnecessarySimpa false
set_option maxHeartbeats 1000000
namespace Go.Proofs.YtkkfilkmkdnboaaDoor
open Go.Ab Go.RowKit
set_option maxRecDepth 10000
attribute [local irreducible] Awp Ops OpsX Wanted Red ExOk Go.Ab.Fin ACall Rz RzL RzRows Enters ResOk RenV RenVL ArgV ArgVL

theorem a_lastB (s : Str) (c : UInt8) (hs : s.length ≤ 9223372036854775807) : AFn C.P 112 [.v (str s), .v (.int .u8 (c.toNat : Int))] (.v (.int .i64 (lastIdx c s))) := by
  refine acall_intro Tryd.func112 rfl _ Tryd.ntmps112 (Nat.le_of_ble_eq_true rfl) _ Tryd.results112 0 rfl rfl ?_
  repeat' (first | refine walk ?_ | fail | ((first | (apply awp_cond; rfl)); all_goals (intro hc; have hp := hc; first | (simp at hp; done) | ((try simp at hp); first | (exfalso; omega) | skip))) | (apply awp_cond_any; rfl))
  (refine Awp.red (red_pure (ts := [(0, .v (str s)), (1, .v (.int .u8 (c.toNat : Int))), (5, .v (.int .i64 ((s.length : Int) - 1 - ((0 : Nat) : Int))))]) ?_) ?_; ((repeat (first | exact tsok_nil | refine p_pure ?_ | refine p_eq ?_ ?_))))
  all_goals try (apply av_int; omega)
  refine awp_loop (fun n σ => ∃ i : Nat, i ≤ s.length ∧ n = s.length - i ∧ (c ∉ s.drop (s.length - i)) ∧ σ = ⟨[(0, .v (str s)), (1, .v (.int .u8 (c.toNat : Int))), (5, .v (.int .i64 ((s.length : Int) - 1 - (i : Int))))], [], C.nh⟩) s.length ⟨0, Nat.zero_le _, rfl, (by simp), rfl⟩ ?_
  rintro n σ ⟨i, hi, rfl, hsofar, rfl⟩
  by_cases hlt : i < s.length
  · have hx : (s.length : Int) - 1 - (i : Int) = ((s.length - 1 - i : Nat) : Int) := by omega
    have hk : s.length - 1 - i < s.length := by omega
    have hr : s[s.length - 1 - i]? = some s[s.length - 1 - i] := List.getElem?_eq_getElem hk
    rw [hx]
    repeat' (first | refine walk ?_ | fail | ((first | (apply awp_cond; rfl)); all_goals (intro hc; have hp := hc; first | (simp at hp; done) | ((try simp at hp); first | (exfalso; omega) | skip))) | (apply awp_cond_any; rfl))
    all_goals try (exfalso; omega)
    · apply fin_int
      rfl
      have hc : s[s.length - 1 - i] = c := UInt8.toNat.inj (by omega)
      exact (lastIdx_is hk hc (by rw [show s.length - 1 - i + 1 = s.length - i from by omega]; exact hsofar)).symm
    · have hc : ¬ s[s.length - 1 - i] = c := fun e => by subst e; omega
      have hnext : c ∉ s.drop (s.length - (i + 1)) := by
        rw [show s.length - (i + 1) = s.length - 1 - i from by omega, List.drop_eq_getElem_cons hk, show s.length - 1 - i + 1 = s.length - i from by omega]
        simp only [List.mem_cons, not_or]
        exact ⟨fun e => hc e.symm, hsofar⟩
      refine ⟨s.length - (i + 1), _, by omega, red_pure (ts := [(0, .v (str s)), (1, .v (.int .u8 (c.toNat : Int))), (5, .v (.int .i64 ((s.length : Int) - 1 - ((i + 1 : Nat) : Int))))]) ?_, i + 1, by omega, rfl, hnext, rfl⟩; ((repeat (first | exact tsok_nil | refine p_pure ?_ | refine p_eq ?_ ?_)); all_goals (apply av_int; omega))
  obtain rfl : i = s.length := by omega
  rw [show (s.length : Int) - 1 - (s.length : Int) = -1 from by omega]
  repeat' (first | refine walk ?_ | fail | ((first | (apply awp_cond; rfl)); all_goals (intro hc; have hp := hc; first | (simp at hp; done) | ((try simp at hp); first | (exfalso; omega) | skip))) | (apply awp_cond_any; rfl))
  all_goals try (exfalso; omega)
  apply fin_int
  rfl
  have : c ∉ s := by simpa using hsofar
  exact (lastIdx_none this).symm
theorem a_last (s : Str) (c : UInt8) (hs : s.length ≤ 9223372036854775807) : AFn C.P 88 [.v (str s), .v (.int .u8 (c.toNat : Int))] (.v (.int .i64 (lastIdx c s))) := by
  refine acall_intro Tryd.func88 rfl _ Tryd.ntmps88 (Nat.le_of_ble_eq_true rfl) _ Tryd.results88 0 rfl rfl ?_
  repeat' (first | refine walk ?_ | (first | (apply to_call Tryd.func112 rfl rfl; intro hIsFn; refine o_callf hIsFn (a_lastB s c hs ..) ?_; skip)) | ((first | (apply awp_cond; rfl)); all_goals (intro hc; have hp := hc; first | (simp at hp; done) | ((try simp at hp); first | (exfalso; omega) | skip))) | (apply awp_cond_any; rfl))
  apply fin_int
  rfl
  rfl
theorem a_split (s : Str) (hs : s.length ≤ 9223372036854775800) : AFn C.P 61 [.v (str s)] (.tup [.v (str (parentOf s)), .v (str (lastOf s))]) := by
  have hl := a_last s 47 (by omega)
  have hbd := lastIdx_bd 47 s
  have hpd : parentOf s = s.take (lastIdx 47 s).toNat := rfl
  have hld : lastOf s = s.drop (lastIdx 47 s + 1).toNat := rfl
  generalize lastIdx 47 s = k at hl hbd hpd hld
  refine acall_intro Tryd.func61 rfl _ Tryd.ntmps61 (Nat.le_of_ble_eq_true rfl) _ Tryd.results61 0 rfl rfl ?_
  repeat' (first | refine walk ?_ | (first | (apply to_call Tryd.func88 rfl rfl; intro hIsFn; refine o_callf hIsFn (hl ..) ?_; skip) | (apply opsx_val; apply ex_max0; (case hx => rfl); (case hy => rfl); (case hN => exact nle rfl)) | (apply opsx_val; apply ex_slice_str (a := 0) (b := k.toNat); (case hx => rfl); (case hT => rfl); (case he => rfl); (case ha => rfl); (case hb => exact ⟨_, rfl⟩); (case hab => (first | omega | (simp; done) | (simp only [List.length_cons, List.length_nil, List.length_map]; omega) | (simp; omega))); (case hbl => (first | omega | (simp; done) | (simp only [List.length_cons, List.length_nil, List.length_map]; omega) | (simp; omega))); (case hN => exact nle rfl)) | (apply opsx_val; apply ex_slice_str (a := (k + 1).toNat) (b := s.length); (case hx => rfl); (case hT => rfl); (case he => rfl); (case ha => exact ⟨_, av_int (by omega)⟩); (case hb => rfl); (case hab => (first | omega | (simp; done) | (simp only [List.length_cons, List.length_nil, List.length_map]; omega) | (simp; omega))); (case hbl => (first | omega | (simp; done) | (simp only [List.length_cons, List.length_nil, List.length_map]; omega) | (simp; omega))); (case hN => exact nle rfl))) | ((first | (apply awp_cond; rfl)); all_goals (intro hc; have hp := hc; first | (simp at hp; done) | ((try simp at hp); first | (exfalso; omega) | skip))) | (apply awp_cond_any; rfl))
  all_goals try (exfalso; omega)
  (refine f_pure (rs := [.tmp 2, .tmp 3]) ?_; (repeat' (first | exact rzl_nil | apply rzl_cons | exact rz_pure rfl | exact rz_ex | exact z_os | apply rz_agg | apply rz_tup | apply rz_clo | apply rz_int | apply rz_bool | apply rz_str | refine z_eq ?_ | apply rz_sl)); all_goals (first | exact hpd.symm | (rw [hld, List.take_length])))
theorem a_joined (p n : Str) (hp : p.length ≤ 140737488355328) (hn : n.length ≤ 1407374883553280) : AFn C.P 144 [.v (str p), .v (str n)] (.v (str (joinOf p n))) := by
  refine acall_intro Tryd.func144 rfl _ Tryd.ntmps144 (Nat.le_of_ble_eq_true rfl) _ Tryd.results144 0 rfl rfl ?_
  repeat' (first | refine walk ?_ | fail | ((first | (apply awp_cond; rfl)); all_goals (intro hc; have hp := hc; first | (simp at hp; done) | ((try simp at hp); first | (exfalso; omega) | skip))) | (apply awp_cond_any; rfl))
  · (refine f_pure (rs := [.tmp 4]) ?_; (repeat' (first | exact rzl_nil | apply rzl_cons | exact rz_pure rfl | exact rz_ex | exact z_os | apply rz_agg | apply rz_tup | apply rz_clo | apply rz_int | apply rz_bool | apply rz_str | refine z_eq ?_ | apply rz_sl)); all_goals (simp_all [joinOf]))
  · (refine f_pure (rs := [.tmp 4]) ?_; (repeat' (first | exact rzl_nil | apply rzl_cons | exact rz_pure rfl | exact rz_ex | exact z_os | apply rz_agg | apply rz_tup | apply rz_clo | apply rz_int | apply rz_bool | apply rz_str | refine z_eq ?_ | apply rz_sl)); all_goals (simp_all [joinOf]))
end Go.Proofs.YtkkfilkmkdnboaaDoor

/- Paths in the abstract layer, 5: Check, Parent, Name, Join, In, Within, Moved. -/
set_option linter.unusedSimpArgs false
set_option linter.unnecessarySimpa false
set_option maxHeartbeats 1000000
namespace Go.Proofs.YtkkfilkmkdnboaaDoor
open Go.Ab Go.RowKit
set_option maxRecDepth 10000
attribute [local irreducible] Awp Ops OpsX Wanted Red ExOk Go.Ab.Fin ACall Rz RzL RzRows Enters ResOk RenV RenVL ArgV ArgVL

theorem prefix_take (q s : Str) : q.isPrefixOf s = (decide (q.length ≤ s.length) && decide (s.take q.length = q)) := by
  rw [Bool.eq_iff_iff, List.isPrefixOf_iff_prefix, Bool.and_eq_true, decide_eq_true_iff, decide_eq_true_iff, List.prefix_iff_eq_take]
  constructor
  · intro h
    have h2 := congrArg List.length h
    rw [List.length_take] at h2
    exact ⟨by omega, h.symm⟩
  · rintro ⟨_, h⟩; exact h.symm
theorem a_prefixL (s q : Str) : AFn C.P 163 [.v (str s), .v (str q)] (.v (.bool (q.isPrefixOf s))) := by
  have hpt := prefix_take q s
  refine acall_intro Tryd.func163 rfl _ Tryd.ntmps163 (Nat.le_of_ble_eq_true rfl) _ Tryd.results163 0 rfl rfl ?_
  repeat' (first | refine walk ?_ | (first | (apply opsx_val; apply ex_slice_str (a := 0) (b := q.length); (case hx => rfl); (case hT => rfl); (case he => rfl); (case ha => rfl); (case hb => exact ⟨_, rfl⟩); (case hab => (first | omega | (simp; done) | (simp only [List.length_cons, List.length_nil, List.length_map]; omega) | (simp; omega))); (case hbl => (first | omega | (simp; done) | (simp only [List.length_cons, List.length_nil, List.length_map]; omega) | (simp; omega))); (case hN => exact nle rfl))) | ((first | (apply ops_split_t; rfl; rfl; exact nle rfl) | (apply ops_split_f; rfl; rfl; exact nle rfl) | (apply awp_cond; rfl)); all_goals (intro hc; have hp := hc; first | (simp at hp; done) | ((try simp at hp); first | (exfalso; omega) | skip))) | (apply awp_cond_any; rfl))
  all_goals try (exfalso; omega)
  · apply fin_bool
    rfl
    have : q.length ≤ s.length := by omega
    rw [hpt]; simp [this]
  · apply fin_bool
    rfl
    have : ¬ q.length ≤ s.length := by omega
    rw [hpt]; simp [this]
theorem a_prefix (s q : Str) : AFn C.P 146 [.v (str s), .v (str q)] (.v (.bool (q.isPrefixOf s))) := by
  refine acall_intro Tryd.func146 rfl _ Tryd.ntmps146 (Nat.le_of_ble_eq_true rfl) _ Tryd.results146 0 rfl rfl ?_
  repeat' (first | refine walk ?_ | (first | (apply to_call Tryd.func163 rfl rfl; intro hIsFn; refine o_callf hIsFn (a_prefixL s q ..) ?_; skip)) | ((first | (apply awp_cond; rfl)); all_goals (intro hc; have hp := hc; first | (simp at hp; done) | ((try simp at hp); first | (exfalso; omega) | skip))) | (apply awp_cond_any; rfl))
  apply fin_bool
  rfl
  rfl
theorem a_in (p q : Str) (hq : q.length ≤ 140737488355328) : AFn C.P 127 [.v (str p), .v (str q)] (.v (.bool (inB p q))) := by
  have hpr := a_prefix p (q ++ [47])
  refine acall_intro Tryd.func127 rfl _ Tryd.ntmps127 (Nat.le_of_ble_eq_true rfl) _ Tryd.results127 0 rfl rfl ?_
  repeat' (first | refine walk ?_ | (first | (apply to_call Tryd.func146 rfl rfl; intro hIsFn; refine o_callf hIsFn (hpr ..) ?_; skip)) | ((first | (apply ops_split_t; rfl; rfl; exact nle rfl) | (apply ops_split_f; rfl; rfl; exact nle rfl) | (apply awp_cond; rfl)); all_goals (intro hc; have hp := hc; first | (simp at hp; done) | ((try simp at hp); first | (exfalso; omega) | skip))) | (apply awp_cond_any; rfl))
  all_goals (apply fin_bool; rfl; simp_all [inB])
theorem pathsErr_one (p : Str) : pathsErr [p] = pathErr p := by
  simp only [pathsErr]; split <;> simp_all
theorem a_check1 (p : Str) (hp : p.length ≤ 140737488355328) : AFn C.P 84 [.sl false [[.v (str p)]]] (.v (.int .i64 (pathErr p))) := by
  have := a_check [p] (by simp) (by simpa using hp)
  rw [pathsErr_one] at this
  exact this
theorem a_pcheck (p : Str) (hp : p.length ≤ 140737488355328) : AFn C.P 59 [.v (str p)] (.v (.int .i64 (pathErr p))) := by
  have hch := a_check1 p hp
  refine acall_intro Tryd.func59 rfl _ Tryd.ntmps59 (Nat.le_of_ble_eq_true rfl) _ Tryd.results59 0 rfl rfl ?_
  repeat' (first | refine walk ?_ | (first | (refine o_fzl ?_) | (apply to_call Tryd.func84 rfl rfl; intro hIsFn; refine o_callp hIsFn (hch ..) ?_)) | ((first | (apply awp_cond; rfl)); all_goals (intro hc; have hp := hc; first | (simp at hp; done) | ((try simp at hp); first | (exfalso; omega) | skip))) | (apply awp_cond_any; rfl))
  apply fin_int
  rfl
  rfl
def okOr (e : Int) (s : Str) : Str := if e = 0 then s else []
def joinErr (p n : Str) : Int := if ¬ p = [] ∧ ¬ pathErr p = 0 then pathErr p else if isName n then (if tooGreat (joinOf p n) then 2 else 0) else 1
def movedErr (p f t : Str) : Int := if pathsErr [p, f, t] = 0 then (if inB p f then (if tooGreat (t ++ p.drop f.length) then 2 else 0) else 5) else pathsErr [p, f, t]
theorem inB_len {p f : Str} (h : inB p f = true) : f.length ≤ p.length := by
  simp only [inB, Bool.or_eq_true, decide_eq_true_eq, List.isPrefixOf_iff_prefix] at h
  rcases h with rfl | h
  · exact Nat.le_refl _
  · have := h.length_le; simp at this; omega
theorem a_moved (p f t : Str) (hp : p.length ≤ 140737488355328) (hf : f.length ≤ 140737488355328) (ht : t.length ≤ 140737488355328) : AFn C.P 132 [.v (str p), .v (str f), .v (str t)] (.tup [.v (str (okOr (movedErr p f t) (t ++ p.drop f.length))), .v (.int .i64 (movedErr p f t))]) := by
  have hch : AFn C.P 84 [.sl false [[.v (str p)], [.v (str f)], [.v (str t)]]] (.v (.int .i64 (pathsErr [p, f, t]))) := a_check [p, f, t] (by simp) (by simpa using ⟨hp, hf, ht⟩)
  have hi := a_in p f hf
  have hg := a_great (t ++ p.drop f.length)
  have hln := @inB_len p f
  have htk : p.take p.length = p := List.take_length
  cases hb : inB p f with
  | false =>
    rw [hb] at hi
    refine acall_intro Tryd.func132 rfl _ Tryd.ntmps132 (Nat.le_of_ble_eq_true rfl) _ Tryd.results132 0 rfl rfl ?_
    repeat' (first | refine walk ?_ | (first | (refine o_fzl ?_) | (apply to_call Tryd.func84 rfl rfl; intro hIsFn; refine o_callp hIsFn (hch ..) ?_) | (apply to_call Tryd.func127 rfl rfl; intro hIsFn; refine o_callf hIsFn (hi ..) ?_; skip)) | ((first | (apply awp_cond; rfl)); all_goals (intro hc; have hp := hc; first | (simp at hp; done) | ((try simp at hp); first | (exfalso; omega) | skip))) | (apply awp_cond_any; rfl))
    all_goals ((refine f_pure (rs := [.tmp 6, .tmp 7]) ?_; (repeat' (first | exact rzl_nil | apply rzl_cons | exact rz_pure rfl | exact rz_ex | exact z_os | apply rz_agg | apply rz_tup | apply rz_clo | apply rz_int | apply rz_bool | apply rz_str | refine z_eq ?_ | apply rz_sl)); all_goals (simp_all [okOr, movedErr])))
  | true =>
    rw [hb] at hi
    have hfl := hln hb
    have hdl : (p.drop f.length).length ≤ p.length := by simp
    refine acall_intro Tryd.func132 rfl _ Tryd.ntmps132 (Nat.le_of_ble_eq_true rfl) _ Tryd.results132 0 rfl rfl ?_
    repeat' (first | refine walk ?_ | (first | (refine o_fzl ?_) | (apply to_call Tryd.func84 rfl rfl; intro hIsFn; refine o_callp hIsFn (hch ..) ?_) | (apply to_call Tryd.func127 rfl rfl; intro hIsFn; refine o_callf hIsFn (hi ..) ?_; skip) | (apply opsx_val; apply ex_slice_str (a := f.length) (b := p.length); (case hx => rfl); (case hT => rfl); (case he => rfl); (case ha => exact ⟨_, rfl⟩); (case hb => rfl); (case hab => (first | omega | (simp; done) | (simp only [List.length_cons, List.length_nil, List.length_map]; omega) | (simp; omega))); (case hbl => (first | omega | (simp; done) | (simp only [List.length_cons, List.length_nil, List.length_map]; omega) | (simp; omega))); (case hN => exact nle rfl)) | (apply to_call Tryd.func110 rfl rfl; intro hIsFn; refine o_callf hIsFn ((htk.symm ▸ hg) ..) ?_; skip)) | ((first | (apply awp_cond; rfl)); all_goals (intro hc; have hp := hc; first | (simp at hp; done) | ((try simp at hp); first | (exfalso; omega) | skip))) | (apply awp_cond_any; rfl))
    all_goals ((refine f_pure (rs := [.tmp 6, .tmp 7]) ?_; (repeat' (first | exact rzl_nil | apply rzl_cons | exact rz_pure rfl | exact rz_ex | exact z_os | apply rz_agg | apply rz_tup | apply rz_clo | apply rz_int | apply rz_bool | apply rz_str | refine z_eq ?_ | apply rz_sl)); all_goals (simp_all [okOr, movedErr])))
end Go.Proofs.YtkkfilkmkdnboaaDoor

/- Paths in the abstract layer, 6: two digits; TrimRight at a blank; Aside. -/
set_option linter.unusedSimpArgs false
set_option linter.unnecessarySimpa false
set_option maxHeartbeats 1000000
namespace Go.Proofs.YtkkfilkmkdnboaaDoor
open Go.Ab Go.RowKit
set_option maxRecDepth 10000
attribute [local irreducible] Awp Ops OpsX Wanted Red ExOk Go.Ab.Fin ACall Rz RzL RzRows Enters ResOk RenV RenVL ArgV ArgVL

def digs1 : Str := [48, 49, 50, 51, 52, 53, 54, 55, 56, 57, 97, 98, 99, 100, 101, 102, 103, 104, 105, 106, 107, 108, 109, 110, 111, 112, 113, 114, 115, 116, 117, 118, 119, 120, 121, 122]
def digs2 : Str := [48, 48, 48, 49, 48, 50, 48, 51, 48, 52, 48, 53, 48, 54, 48, 55, 48, 56, 48, 57, 49, 48, 49, 49, 49, 50, 49, 51, 49, 52, 49, 53, 49, 54, 49, 55, 49, 56, 49, 57, 50, 48, 50, 49, 50, 50, 50, 51, 50, 52, 50, 53, 50, 54, 50, 55, 50, 56, 50, 57, 51, 48, 51, 49, 51, 50, 51, 51, 51, 52, 51, 53, 51, 54, 51, 55, 51, 56, 51, 57, 52, 48, 52, 49, 52, 50, 52, 51, 52, 52, 52, 53, 52, 54, 52, 55, 52, 56, 52, 57, 53, 48, 53, 49, 53, 50, 53, 51, 53, 52, 53, 53, 53, 54, 53, 55, 53, 56, 53, 57, 54, 48, 54, 49, 54, 50, 54, 51, 54, 52, 54, 53, 54, 54, 54, 55, 54, 56, 54, 57, 55, 48, 55, 49, 55, 50, 55, 51, 55, 52, 55, 53, 55, 54, 55, 55, 55, 56, 55, 57, 56, 48, 56, 49, 56, 50, 56, 51, 56, 52, 56, 53, 56, 54, 56, 55, 56, 56, 56, 57, 57, 48, 57, 49, 57, 50, 57, 51, 57, 52, 57, 53, 57, 54, 57, 55, 57, 56, 57, 57]
theorem digs1_at : ∀ k : Fin 10, (digs1.take (k.val + 1)).drop k.val = dec2 (k.val : Int) := by decide +kernel
theorem digs2_at : ∀ k : Fin 100, 10 ≤ k.val → (digs2.take (2 * k.val + 2)).drop (2 * k.val) = dec2 (k.val : Int) := by decide +kernel
theorem a_small (k : Nat) (hk : k < 100) : AFn C.P 177 [.v (.int .i64 (k : Int))] (.v (str (dec2 (k : Int)))) := by
  have h1 := fun h : k < 10 => digs1_at ⟨k, h⟩
  have h2 := digs2_at ⟨k, hk⟩
  simp only at h1 h2
  have l1 : digs1.length = 36 := rfl
  have l2 : digs2.length = 200 := rfl
  refine acall_intro Tryd.func177 rfl _ Tryd.ntmps177 (Nat.le_of_ble_eq_true rfl) _ Tryd.results177 0 rfl rfl ?_
  repeat' (first | refine walk ?_ | (first | (apply opsx_val; apply ex_slice_str (l := digs1) (a := k) (b := k + 1); (case hx => rfl); (case hT => rfl); (case he => rfl); (case ha => exact ⟨_, rfl⟩); (case hb => exact ⟨_, rfl⟩); (case hab => omega); (case hbl => omega); (case hN => exact nle rfl)) | (apply opsx_val; apply ex_mul; rfl; rfl; omega; omega; exact nle rfl) | (apply opsx_val; apply ex_slice_str (l := digs2) (a := 2 * k) (b := 2 * k + 2); (case hx => rfl); (case hT => rfl); (case he => rfl); (case ha => exact ⟨_, av_int (by omega)⟩); (case hb => exact ⟨_, av_int (by omega)⟩); (case hab => omega); (case hbl => omega); (case hN => exact nle rfl))) | ((first | (apply awp_cond; rfl)); all_goals (intro hc; have hp := hc; first | (simp at hp; done) | ((try simp at hp); first | (exfalso; omega) | skip))) | (apply awp_cond_any; rfl))
  · (refine f_pure (rs := [.tmp 2]) ?_; (repeat' (first | exact rzl_nil | apply rzl_cons | exact rz_pure rfl | exact rz_ex | exact z_os | apply rz_agg | apply rz_tup | apply rz_clo | apply rz_int | apply rz_bool | apply rz_str | refine z_eq ?_ | apply rz_sl)); all_goals exact h1 (by omega))
  · (refine f_pure (rs := [.tmp 2]) ?_; (repeat' (first | exact rzl_nil | apply rzl_cons | exact rz_pure rfl | exact rz_ex | exact z_os | apply rz_agg | apply rz_tup | apply rz_clo | apply rz_int | apply rz_bool | apply rz_str | refine z_eq ?_ | apply rz_sl)); all_goals exact h2 (by omega))
theorem a_format (k : Nat) (hk : k < 100) : AFn C.P 169 [.v (.int .i64 (k : Int)), .v (.int .i64 10)] (.v (str (dec2 (k : Int)))) := by
  have hs := a_small k hk
  refine acall_intro Tryd.func169 rfl _ Tryd.ntmps169 (Nat.le_of_ble_eq_true rfl) _ Tryd.results169 0 rfl rfl ?_
  repeat' (first | refine walk ?_ | (first | (apply to_call Tryd.func177 rfl rfl; intro hIsFn; refine o_callf hIsFn (hs ..) ?_; skip)) | ((first | (apply ops_split_t; rfl; rfl; exact nle rfl) | (apply ops_split_f; rfl; rfl; exact nle rfl) | (apply awp_cond; rfl)); all_goals (intro hc; have hp := hc; first | (simp at hp; done) | ((try simp at hp); first | (exfalso; omega) | skip))) | (apply awp_cond_any; rfl))
  all_goals try (exfalso; omega)
  (refine f_pure (rs := [.tmp 4]) ?_; (repeat' (first | exact rzl_nil | apply rzl_cons | exact rz_pure rfl | exact rz_ex | exact z_os | apply rz_agg | apply rz_tup | apply rz_clo | apply rz_int | apply rz_bool | apply rz_str | refine z_eq ?_ | apply rz_sl)); all_goals skip)
theorem a_itoaI (k : Nat) (hk : k < 100) : AFn C.P 158 [.v (.int .i64 (k : Int))] (.v (str (dec2 (k : Int)))) := by
  have hs := a_format k hk
  refine acall_intro Tryd.func158 rfl _ Tryd.ntmps158 (Nat.le_of_ble_eq_true rfl) _ Tryd.results158 0 rfl rfl ?_
  repeat' (first | refine walk ?_ | (first | (apply to_call Tryd.func169 rfl rfl; intro hIsFn; refine o_callf hIsFn (hs ..) ?_; skip)) | ((first | (apply awp_cond; rfl)); all_goals (intro hc; have hp := hc; first | (simp at hp; done) | ((try simp at hp); first | (exfalso; omega) | skip))) | (apply awp_cond_any; rfl))
  (refine f_pure (rs := [.tmp 2]) ?_; (repeat' (first | exact rzl_nil | apply rzl_cons | exact rz_pure rfl | exact rz_ex | exact z_os | apply rz_agg | apply rz_tup | apply rz_clo | apply rz_int | apply rz_bool | apply rz_str | refine z_eq ?_ | apply rz_sl)); all_goals skip)
theorem a_itoa2 (k : Nat) (hk : k < 100) : AFn C.P 142 [.v (.int .i64 (k : Int))] (.v (str (dec2 (k : Int)))) := by
  have hs := a_itoaI k hk
  refine acall_intro Tryd.func142 rfl _ Tryd.ntmps142 (Nat.le_of_ble_eq_true rfl) _ Tryd.results142 0 rfl rfl ?_
  repeat' (first | refine walk ?_ | (first | (apply to_call Tryd.func158 rfl rfl; intro hIsFn; refine o_callf hIsFn (hs ..) ?_; skip)) | ((first | (apply awp_cond; rfl)); all_goals (intro hc; have hp := hc; first | (simp at hp; done) | ((try simp at hp); first | (exfalso; omega) | skip))) | (apply awp_cond_any; rfl))
  (refine f_pure (rs := [.tmp 2]) ?_; (repeat' (first | exact rzl_nil | apply rzl_cons | exact rz_pure rfl | exact rz_ex | exact z_os | apply rz_agg | apply rz_tup | apply rz_clo | apply rz_int | apply rz_bool | apply rz_str | refine z_eq ?_ | apply rz_sl)); all_goals skip)

theorem last_snoc {u : Str} (h : u ≠ []) : ∃ v c, u = v ++ [c] ∧ u[u.length - 1]? = some c ∧ u.take (u.length - 1) = v := by
  refine ⟨u.dropLast, u.getLast h, (List.dropLast_concat_getLast h).symm, ?_, by rw [List.dropLast_eq_take]⟩
  rw [List.getLast_eq_getElem, List.getElem?_eq_getElem (by have := List.length_pos_iff.2 h; omega)]
theorem a_trimB (s : Str) (hs : s.length ≤ 140737488355328) : AFn C.P 159 [.v (str s), .v (.int .u8 32)] (.v (str (trimR s))) := by
  refine acall_intro Tryd.func159 rfl _ Tryd.ntmps159 (Nat.le_of_ble_eq_true rfl) _ Tryd.results159 0 rfl rfl ?_
  repeat' (first | refine walk ?_ | fail | ((first | (apply ops_split_t; rfl; rfl; exact nle rfl) | (apply ops_split_f; rfl; rfl; exact nle rfl) | (apply awp_cond; rfl)); all_goals (intro hc; have hp := hc; first | (simp at hp; done) | ((try simp at hp); first | (exfalso; omega) | skip))) | (apply awp_cond_any; rfl))
  (refine Awp.red (red_pure (ts := [(0, .v (str (s.take (s.length - 0)))), (1, .v (.int .u8 32))]) ?_) ?_; ((repeat (first | exact tsok_nil | refine p_pure ?_ | refine p_eq ?_ ?_))))
  all_goals try (simp; done)
  refine awp_loop (fun n σ => ∃ i : Nat, i ≤ s.length ∧ n = s.length - i ∧ (trimR s = trimR (s.take (s.length - i))) ∧ σ = ⟨[(0, .v (str (s.take (s.length - i)))), (1, .v (.int .u8 32))], [], C.nh⟩) s.length ⟨0, Nat.zero_le _, rfl, (by simp), rfl⟩ ?_
  rintro n σ ⟨i, hi, rfl, hsofar, rfl⟩
  have hul : (s.take (s.length - i)).length = s.length - i := by simp
  by_cases hlt : i < s.length
  · have hnx : (s.take (s.length - i)).take ((s.take (s.length - i)).length - 1) = s.take (s.length - (i + 1)) := by rw [hul, List.take_take]; congr 1; omega
    generalize s.take (s.length - i) = u at hul hsofar hnx ⊢
    have hne : u ≠ [] := fun e => by subst e; simp at hul; omega
    obtain ⟨v, c, huv, hch, hv⟩ := last_snoc hne
    have htr := trimR_snoc v c
    rw [← huv] at htr
    repeat' (first | refine walk ?_ | (first | (apply opsx_val; apply ex_index_str (i := u.length - 1); (case hx => rfl); (case hy => exact av_int (by omega)); (case hT => rfl); (case he => rfl); (case hc => exact hch); (case hN => exact nle rfl)) | (apply opsx_val; apply ex_slice_str (a := 0) (b := u.length - 1); (case hx => rfl); (case hT => rfl); (case he => rfl); (case ha => rfl); (case hb => exact ⟨_, av_int (by omega)⟩); (case hab => (first | omega | (simp; done) | (simp only [List.length_cons, List.length_nil, List.length_map]; omega) | (simp; omega))); (case hbl => (first | omega | (simp; done) | (simp only [List.length_cons, List.length_nil, List.length_map]; omega) | (simp; omega))); (case hN => exact nle rfl))) | ((first | (apply ops_split_t; rfl; rfl; exact nle rfl) | (apply ops_split_f; rfl; rfl; exact nle rfl) | (apply awp_cond; rfl)); all_goals (intro hc; have hp := hc; first | (simp at hp; done) | ((try simp at hp); first | (exfalso; omega) | skip))) | (apply awp_cond_any; rfl))
    all_goals try (exfalso; omega)
    all_goals try (exfalso; exact hne (by assumption))
    · have hc32 : c = 32 := UInt8.toNat.inj (by show c.toNat = 32; omega)
      rw [if_pos hc32] at htr
      have hcond : trimR s = trimR (s.take (s.length - (i + 1))) := by rw [hsofar, htr, ← hnx, hv]
      refine ⟨s.length - (i + 1), _, by omega, red_pure (ts := [(0, .v (str (s.take (s.length - (i + 1))))), (1, .v (.int .u8 32))]) ?_, i + 1, by omega, rfl, hcond, rfl⟩; ((repeat (first | exact tsok_nil | refine p_pure ?_ | refine p_eq ?_ ?_)); all_goals (rw [← hnx]; rfl))
    · have hc32 : ¬ c = 32 := fun e => by subst e; simp at hp
      rw [if_neg hc32] at htr
      (refine f_pure (rs := [.tmp 4]) ?_; (repeat' (first | exact rzl_nil | apply rzl_cons | exact rz_pure rfl | exact rz_ex | exact z_os | apply rz_agg | apply rz_tup | apply rz_clo | apply rz_int | apply rz_bool | apply rz_str | refine z_eq ?_ | apply rz_sl)); all_goals (rw [hsofar, htr]))
  obtain rfl : i = s.length := by omega
  simp only [Nat.sub_self, List.take_zero] at hsofar ⊢
  repeat' (first | refine walk ?_ | fail | ((first | (apply ops_split_t; rfl; rfl; exact nle rfl) | (apply ops_split_f; rfl; rfl; exact nle rfl) | (apply awp_cond; rfl)); all_goals (intro hc; have hp := hc; first | (simp at hp; done) | ((try simp at hp); first | (exfalso; omega) | skip))) | (apply awp_cond_any; rfl))
  all_goals try (exfalso; omega)
  (refine f_pure (rs := [.tmp 4]) ?_; (repeat' (first | exact rzl_nil | apply rzl_cons | exact rz_pure rfl | exact rz_ex | exact z_os | apply rz_agg | apply rz_tup | apply rz_clo | apply rz_int | apply rz_bool | apply rz_str | refine z_eq ?_ | apply rz_sl)); all_goals (rw [hsofar]; rfl))
theorem a_trim (s : Str) (hs : s.length ≤ 140737488355328) : AFn C.P 143 [.v (str s), .v (str [32])] (.v (str (trimR s))) := by
  have hb := a_trimB s hs
  refine acall_intro Tryd.func143 rfl _ Tryd.ntmps143 (Nat.le_of_ble_eq_true rfl) _ Tryd.results143 0 rfl rfl ?_
  repeat' (first | refine walk ?_ | (first | (apply to_call Tryd.func159 rfl rfl; intro hIsFn; refine o_callf hIsFn (hb ..) ?_; skip)) | ((first | (apply ops_split_t; rfl; rfl; exact nle rfl) | (apply ops_split_f; rfl; rfl; exact nle rfl) | (apply awp_cond; rfl)); all_goals (intro hc; have hp := hc; first | (simp at hp; done) | ((try simp at hp); first | (exfalso; omega) | skip))) | (apply awp_cond_any; rfl))
  all_goals try (exfalso; simp_all; done)
  all_goals ((refine f_pure (rs := [.tmp 4]) ?_; (repeat' (first | exact rzl_nil | apply rzl_cons | exact rz_pure rfl | exact rz_ex | exact z_os | apply rz_agg | apply rz_tup | apply rz_clo | apply rz_int | apply rz_bool | apply rz_str | refine z_eq ?_ | apply rz_sl)); all_goals (first | (have e : s = [] := (by assumption); subst e; rfl) | rfl)))
end Go.Proofs.YtkkfilkmkdnboaaDoor
