import Derived.Test.YtiljlcgmcmjcoaaGreatDoorMz7
import Derived.RangeFuncNested
import Derived.RangeFuncBound
import Derived.RangeFuncCalls
import Derived.RangeFuncLeaves
import Derived.Shelf.Abstract
import Derived.Shelf.RegionOpen
import Derived.WalkKit
import Derived.OwnWalkIn
import Derived.TacticsInMore
import Derived.LoopNIn
import Derived.LoopIn
import Derived.Test.YtiljlcgmcmjcoaaGreatDoorMz6
import Derived.Test.YtiljlcgmcmjcoaaGreatDoorMz0
/- Paths, 2: the iterator over a path's names, in the machine's own words. -/
set_option linter.unusedSimpArgs false
set_option linter.unnecessarySimpa false
namespace Go.Proofs.YtiljlcgmcmjcoaaGreatDoor
open Go.Ab Go.RowKit Go.Shelf
set_option maxRecDepth 10000
attribute [local go_sem] Oper.semAt_some

abbrev strV (s : Str) : Value := .string ⟨s.toArray⟩
abbrev ptrV (b : Nat) : Value := .pointer (some ⟨b, 0, none⟩)

theorem splitSeq_any (p : Str) (w : World) : Calls Tryz.prog 170 #[strV p, strV slash, .int .i64 0] w fun e w' =>
    e = .returned (.func (.func 181) #[] #[ptrV (w.heap.size + 1), ptrV w.heap.size, ptrV (w.heap.size + 2)]) ∧ w' = ((w.alloc (.cells #[strV p] 9)).alloc (.cells #[strV slash] 9)).alloc (.cells #[.int .i64 0] 3) := by
  go_enter Tryz.func170, Tryz.ntmps170
  go_wp2
  go_ret
  refine ⟨rfl, rfl⟩

theorem SplitSeq_any (p : Str) (w : World) : Calls Tryz.prog 142 #[strV p, strV slash] w fun e w' =>
    e = .returned (.func (.func 181) #[] #[ptrV (w.heap.size + 1), ptrV w.heap.size, ptrV (w.heap.size + 2)]) ∧ w' = ((w.alloc (.cells #[strV p] 9)).alloc (.cells #[strV slash] 9)).alloc (.cells #[.int .i64 0] 3) := by
  go_enter Tryz.func142, Tryz.ntmps142
  go_wp2_with (go_at_call 170; refine (splitSeq_any _ _).mono ?_; rintro e w' ⟨rfl, rfl⟩)
  go_ret
  refine ⟨rfl, rfl⟩

theorem indexByte_any (s : Str) (c : UInt8) (w : World) : Calls Tryz.prog 116 #[strV s, .int .u8 (c.toNat : Int)] w fun e w' => e = .returned (.int .i64 (Lib.indexByte s c)) ∧ w' = w := by
  go_enter Tryz.func116, Tryz.ntmps116
  go_wp2
  rw [run_callFunc_extern Tryz.func144 (by kernel_rfl) (by kernel_rfl) (by kernel_rfl) (e := Extern.BytealgIndexByte.indexByte) (by kernel_rfl), Lib.run_indexByteString]
  simp only [Result.andThen]
  rw [Oper.upon_value]
  go_wp2
  go_ret
  refine ⟨?_, rfl⟩
  simp
theorem indexL_any (s : Str) (w : World) : Calls Tryz.prog 196 #[strV s, strV slash] w fun e w' => e = .returned (.int .i64 (Lib.indexByte s 47)) ∧ w' = w := by
  show Calls _ _ #[strV s, .string ⟨#[47]⟩] w _
  go_enter Tryz.func196, Tryz.ntmps196
  go_wp2_with (go_at_call 116; refine (indexByte_any s 47 _).mono ?_; rintro e w' ⟨rfl, rfl⟩)
  · go_ret
    refine ⟨?_, rfl⟩
    have e : ([47] : Str) = s := by first | assumption | (simp_all; done)
    subst e
    rfl
  · go_ret
    exact ⟨rfl, rfl⟩
theorem index_any (s : Str) (w : World) : Calls Tryz.prog 183 #[strV s, strV slash] w fun e w' => e = .returned (.int .i64 (Lib.indexByte s 47)) ∧ w.grownBy w' none := by
  go_enter Tryz.func183, Tryz.ntmps183
  go_wp2_with (go_at_call 196; refine (indexL_any _ _).mono ?_; rintro e w' ⟨rfl, rfl⟩)
  go_ret
  exact ⟨rfl, ⟨rfl, rfl, rfl, Nat.le_refl _, fun _ _ _ => rfl⟩⟩

/-- Where the first sign stands. -/
theorem first_slash (s : Str) : (Lib.indexByte s 47 = -1 ∧ (47 : UInt8) ∉ s) ∨ ∃ a b, s = a ++ 47 :: b ∧ (47 : UInt8) ∉ a ∧ Lib.indexByte s 47 = a.length := by
  induction s with
  | nil => exact .inl ⟨rfl, by simp⟩
  | cons c s ih =>
    by_cases hc : c = 47
    · subst hc; exact .inr ⟨[], s, rfl, by simp, by simp [Lib.indexByte]⟩
    · rcases ih with ⟨h1, h2⟩ | ⟨a, b, h1, h2, h3⟩
      · exact .inl ⟨by simp [Lib.indexByte, hc, h1], by simp only [List.mem_cons, not_or]; exact ⟨fun e => hc e.symm, h2⟩⟩
      · refine .inr ⟨c :: a, b, by simp [h1], by simp only [List.mem_cons, not_or]; exact ⟨fun e => hc e.symm, h2⟩, ?_⟩
        have : ¬ Lib.indexByte s 47 = -1 := by omega
        simp [Lib.indexByte, hc, this, h3]

theorem cell_of {W : World} {b T : Nat} {v : Value} (h : W.heap[b]? = some (.cells #[v] T (0, 0))) : W.cell? ⟨b, 0, none⟩ = some v ∧ W.frozen? ⟨b, 0, none⟩ = false := by simp [World.cell?, World.frozen?, h]
theorem kept {A B : World} {k : Nat} {o : Obj} (hg : A.grownBy B Option.none) (h : A.heap[k]? = some o) : B.heap[k]? = some o := (hg.block k (Array.getElem?_eq_some_iff.1 h).1 (by simp)).trans h
theorem _root_.Go.World.grownBy.weaken {A B : World} (h : A.grownBy B Option.none) (r : Option Nat) : A.grownBy B r := ⟨h.os, h.tape, h.output, h.size, fun k hk _ => h.block k hk (by simp)⟩
theorem wrap64_in {x : Int} (h1 : 0 ≤ x) (h2 : x ≤ 9223372036854775807) : wrap64 x = x := IntWalk.wrap64_in x ⟨by omega, by omega⟩
theorem extract_str (l : List UInt8) (a b : Nat) : ByteArray.extract ⟨l.toArray⟩ a b = ⟨((l.take b).drop a).toArray⟩ := by
  have h : (ByteArray.extract ⟨l.toArray⟩ a b).data = ((l.take b).drop a).toArray := by simp [List.drop_take]
  calc ByteArray.extract ⟨l.toArray⟩ a b = ⟨(ByteArray.extract ⟨l.toArray⟩ a b).data⟩ := rfl
    _ = _ := by rw [h]
theorem heap_set {W : World} {b T : Nat} {v : Value} (h : W.heap[b]? = some (.cells #[v] T (0, 0))) (u : Value) : (W.setCell ⟨b, 0, none⟩ u).heap[b]? = some (.cells #[u] T (0, 0)) := by
  obtain ⟨hlt, hb⟩ := Array.getElem?_eq_some_iff.1 h
  show (W.heap.modify b _)[b]? = _
  rw [Array.getElem?_eq_getElem (by rw [Array.size_modify]; exact hlt), Array.getElem_modify_self, hb]
  rfl
theorem heap_set_ne (W : World) {b k : Nat} (u : Value) (h : k ≠ b) : (W.setCell ⟨b, 0, none⟩ u).heap[k]? = W.heap[k]? := Below.heap_setCell W ⟨b, 0, none⟩ u k h
/-- How much text is left. -/
def leftAt (S : Nat) (w : World) : Nat := match w.cell? ⟨S, 0, none⟩ with | some (.string s) => s.size | _ => 0
theorem split_iter (n : Nat) (hn : 1 ≤ n) (p : Str) (hp : p.length ≤ 140737488355328) (w0 : World) (S : Nat) (h0 : w0.heap[S]? = some (.cells #[strV p] 9 (0, 0))) (h1 : w0.heap[S + 1]? = some (.cells #[strV slash] 9 (0, 0))) (h2 : w0.heap[S + 2]? = some (.cells #[.int .i64 0] 3 (0, 0))) :
    CellIter Fence.wide n Tryz.prog 181 #[ptrV (S + 1), ptrV S, ptrV (S + 2)] S (namesOf p) w0 := by
  intro l J Jx W hW hJ hJx hY hJ0
  have hS : W.heap[S]? = some (.cells #[strV p] 9 (0, 0)) := (hW S (by omega) (by omega)).trans h0
  have hS1 : W.heap[S + 1]? = some (.cells #[strV slash] 9 (0, 0)) := (hW (S + 1) (by omega) (by omega)).trans h1
  have hS2 : W.heap[S + 2]? = some (.cells #[.int .i64 0] 3 (0, 0)) := (hW (S + 2) (by omega) (by omega)).trans h2
  have c1 := (cell_of hS1).1
  have hsl : List.length slash = 1 := rfl
  refine callsIn_of_wp Tryz.func181 rfl trivial ?_ rfl
  simp only [Tryz.ntmps181, List.size_toArray, List.length_cons, List.length_nil, Nat.reduceAdd, Nat.reduceSub, Array.replicate_succ, Array.replicate_zero, List.push_toArray, List.append_toArray, List.cons_append, List.nil_append]
  gi_wp2
  gi_loopw [7] (fun _ wr => ∃ (pre : List Str) (rest : Str), namesOf p = pre ++ namesOf rest ∧ rest.length ≤ p.length ∧ wr.heap[S]? = some (.cells #[strV rest] 9 (0, 0)) ∧ wr.heap[S + 1]? = some (.cells #[strV slash] 9 (0, 0)) ∧ wr.heap[S + 2]? = some (.cells #[.int .i64 0] 3 (0, 0)) ∧ J pre wr) (fun _ wr => leftAt S wr)
  case atStart => exact ⟨[], p, rfl, Nat.le_refl _, hS, hS1, hS2, hJ0⟩
  case round =>
    obtain ⟨pre, rest, hx, hlen, hb, hb1, hb2, hJs⟩ := hrel
    have c0 := (cell_of hb).1
    have c1 := (cell_of hb1).1
    have c2 := (cell_of hb2).1
    rcases first_slash rest with ⟨hm, hfree⟩ | ⟨a, b, rfl, hfa, hi⟩
    · have hpre : pre ++ [rest] <+: namesOf p := by rw [hx, namesOf_one hfree]; exact List.prefix_refl _
      gi_wp2_with (refine ⟨trivial, ?_⟩; gi_at_call 183; refine (callsIn_wide.2 (index_any _ _)).mono ?_; rintro e w1 ⟨rfl, hg⟩; have hd0 := kept hg hb; have hd1 := kept hg hb1; have hd2 := kept hg hb2; have d0 := (cell_of hd0).1; have d1 := (cell_of hd1).1; have d2 := (cell_of hd2).1; obtain ⟨fn, tmps, assign, body, hy, hR⟩ := hY pre rest w1 (hJ _ _ _ hJs (hg.weaken _)) hpre)
      refine hR.mono ?_
      rintro e W' (⟨rfl, hJ', hk⟩ | ⟨rfl, hJx'⟩)
      · gi_wp2
        go_end0
        exact ⟨⟨_, rfl⟩, .inl (by rw [hx, namesOf_one hfree]; exact hJ')⟩
      · gi_wp2
        go_end0
        exact ⟨⟨_, rfl⟩, .inr ⟨_, hpre, hJx'⟩⟩
    · have hpre : pre ++ [a] <+: namesOf p := by rw [hx, namesOf_cons b hfa]; exact ⟨namesOf b, by simp⟩
      have hw1 : wrap64 (a.length : Int) = a.length := wrap64_in (by omega) (by simp at hlen; omega)
      have hw2 : wrap64 ((a.length : Int) + 1) = a.length + 1 := wrap64_in (by omega) (by simp at hlen; omega)
      have hs1 := extract_str (a ++ 47 :: b) 0 a.length
      have hs3 : ({ data := List.toArray (a ++ 47 :: b) } : ByteArray).extract (a.length + 1) (a.length + (b.length + 1)) = ⟨b.toArray⟩ := by
        rw [extract_str, List.take_of_length_le (by simp), List.drop_append, List.drop_of_length_le (by omega), List.nil_append, show a.length + 1 - a.length = 1 from by omega]; rfl
      have hs2 := extract_str (a ++ 47 :: b) (a.length + 1) (a ++ 47 :: b).length
      gi_wp2_with (refine ⟨trivial, ?_⟩; gi_at_call 183; refine (callsIn_wide.2 (index_any _ _)).mono ?_; rintro e w1 ⟨rfl, hg⟩; have hd0 := kept hg hb; have hd1 := kept hg hb1; have hd2 := kept hg hb2; have d0 := (cell_of hd0).1; have d1 := (cell_of hd1).1; have d2 := (cell_of hd2).1; obtain ⟨fn, tmps, assign, body, hy, hR⟩ := hY pre a w1 (hJ _ _ _ hJs (hg.weaken _)) hpre)
      refine hR.mono ?_
      rintro e W' (⟨rfl, hJ', hk⟩ | ⟨rfl, hJx'⟩)
      · have he0 := (hk S (by omega) (by omega)).trans hd0
        have he1 := (hk (S + 1) (by omega) (by omega)).trans hd1
        have he2 := (hk (S + 2) (by omega) (by omega)).trans hd2
        have e0 := (cell_of he0).1
        have e1 := (cell_of he1).1
        have e2 := (cell_of he2).1
        have f0 := (cell_of he0).2
        gi_wp2
        go_roundw
        case rel => exact ⟨pre ++ [a], b, by rw [hx, namesOf_cons b hfa]; simp, by simp at hlen; omega, heap_set he0 _, (heap_set_ne W' _ (by omega)).trans he1, (heap_set_ne W' _ (by omega)).trans he2, hJ _ _ _ hJ' (grownBy_setCell' W' S _)⟩
        case measure =>
          simp [leftAt, (cell_of (heap_set he0 (strV b))).1, c0, ByteArray.size]
          omega
      · gi_wp2
        refine bodyPost_ret (results_none rfl _ _ _) rfl ?_
        exact ⟨⟨_, rfl⟩, .inr ⟨_, hpre, hJx'⟩⟩
end Go.Proofs.YtiljlcgmcmjcoaaGreatDoor

/- Paths, 3: check of some paths: a range over a function within a loop, in the machine's own words. -/
set_option linter.unusedSimpArgs false
set_option linter.unnecessarySimpa false
namespace Go.Proofs.YtiljlcgmcmjcoaaGreatDoor
open Go.Ab Go.RowKit Go.Shelf
set_option maxRecDepth 10000
attribute [local go_sem] Oper.semAt_some

def strRow (s : Str) : List AV := [.v (str s)]
abbrev mk (D : Nat) : Deferred := { target := .collected D, args := #[] }
theorem count_any (s : Str) (w : World) : Calls Tryz.prog 171 #[strV s, strV slash] w fun e w' => e = .returned (.int .i64 (s.count 47 : Nat)) ∧ w' = w := by
  show Calls _ _ #[strV s, .string ⟨#[47]⟩] w _
  go_enter Tryz.func171, Tryz.ntmps171
  go_wp2
  rw [run_callFunc_extern Tryz.func185 (by kernel_rfl) (by kernel_rfl) (by kernel_rfl) (e := Extern.BytealgCount.count) (by kernel_rfl), Lib.run_countString]
  simp only [Result.andThen]
  rw [Oper.upon_value]
  go_wp2
  go_ret
  refine ⟨?_, rfl⟩
  simp [Lib.countByte]
  rfl
theorem great_any (s : Str) (w : World) : Calls Tryz.prog 143 #[strV s] w fun e w' => e = .returned (.bool (tooGreat s)) ∧ w.grownBy w' none := by
  have htg := tooGreat_count s
  have hg0 : w.grownBy w none := ⟨rfl, rfl, rfl, Nat.le_refl _, fun _ _ _ => rfl⟩
  go_enter Tryz.func143, Tryz.ntmps143
  go_wp2_with (go_at_call 171; refine (count_any s _).mono ?_; rintro e w' ⟨rfl, rfl⟩)
  all_goals go_ret
  all_goals (refine ⟨?_, hg0⟩)
  · show Ending.returned (Value.bool _) = _
    try rw [htg]
    congr 2
    rw [Bool.eq_iff_iff]
    simp
    omega
  · show Ending.returned (Value.bool true) = _
    try rw [htg]
    congr 2
    have h6 : 6 ≤ s.count 47 := by first | omega | (simp_all; done) | (simp_all; omega)
    simp [h6]

/-- A function that leaves with marks alone among its deferred calls. -/
theorem leaves_marks {F : Fence} {n : Nat} {P : Program} {fn : Func} {tmps : Array Value} {R : Ending → World → Prop} : ∀ (Ds : List Nat) (W : World), Ds.Nodup → (∀ D, D ∈ Ds → W.heap[D]? = some (.deferred (some []))) →
    (∀ W', W.heap.size = W'.heap.size → W'.os = W.os → W'.tape = W.tape → W'.output = W.output → (∀ k, k ∉ Ds → W'.heap[k]? = W.heap[k]?) → LeavesInM F n P fn tmps R [] .returning W') → LeavesInM F n P fn tmps R (Ds.map mk) .returning W
  | [], W, _, _, h => h W rfl rfl rfl rfl fun _ _ => rfl
  | D :: Ds, W, hn, hd, h => by
    obtain ⟨h1, h2⟩ := List.nodup_cons.1 hn
    have hK := hd D (by simp)
    refine ⟨by simp, .inl ⟨D, _, rfl, run_takeDeferred hK, leaves_marks Ds _ h2 (fun D' hD' => (World.putObj_heap_other (by rintro rfl; exact h1 hD')).trans (hd D' (by simp [hD']))) fun W' a1 a2 a3 a4 a5 => ?_⟩⟩
    refine h W' (by rw [← a1]; simp) a2 a3 a4 fun k hk => ?_
    simp only [List.mem_cons, not_or] at hk
    exact (a5 k hk.2).trans (World.putObj_heap_other hk.1)

/-- What holds between two rounds of the outer loop. -/
structure ChkW (w : World) (e : Int) (Ds : List Nat) (W : World) : Prop where
  below : Below w.heap.size w W
  cell : W.heap[w.heap.size]? = some (.cells #[.int .i64 e] 29 (0, 0))
  marks : ∀ D, D ∈ Ds → w.heap.size < D ∧ W.heap[D]? = some (.deferred (some []))
theorem ChkW.grown {w : World} {e : Int} {Ds : List Nat} {W W' : World} {row : Option Nat} (h : ChkW w e Ds W) (hg : W.grownBy W' row) (hr : ∀ r, row = some r → w.heap.size < r ∧ r ∉ Ds) : ChkW w e Ds W' := by
  have hlt := (Array.getElem?_eq_some_iff.1 h.cell).1
  refine ⟨h.below.grown hg (by omega) (fun k e => by have := (hr k e).1; omega), (hg.block _ hlt (fun e => by have := (hr _ e.symm).1; omega)).trans h.cell, fun D hD => ⟨(h.marks D hD).1, ?_⟩⟩
  exact (hg.block D (Array.getElem?_eq_some_iff.1 (h.marks D hD).2).1 (fun e => (hr _ e.symm).2 hD)).trans (h.marks D hD).2
theorem ChkW.lt {w : World} {e : Int} {Ds : List Nat} {W : World} (h : ChkW w e Ds W) : w.heap.size < W.heap.size := (Array.getElem?_eq_some_iff.1 h.cell).1
theorem ChkW.mlt {w : World} {e : Int} {Ds : List Nat} {W : World} (h : ChkW w e Ds W) : ∀ D, D ∈ Ds → D < W.heap.size := fun D hD => (Array.getElem?_eq_some_iff.1 (h.marks D hD).2).1
theorem ChkW.set {w : World} {e : Int} {Ds : List Nat} {W : World} (h : ChkW w e Ds W) (e' : Int) : ChkW w e' Ds (W.setCell ⟨w.heap.size, 0, Option.none⟩ (.int .i64 e')) :=
  ⟨h.below.setCell (Nat.le_refl _) _, heap_set h.cell _, fun D hD => ⟨(h.marks D hD).1, (heap_set_ne W _ (by have := (h.marks D hD).1; omega)).trans (h.marks D hD).2⟩⟩

theorem leaves_check {n : Nat} {tmps : Array Value} {w W : World} {e : Int} {Ds : List Nat} (h : ChkW w e Ds W) (hn : Ds.Nodup) (ht : tmps.getD 2 undef = .pointer (some ⟨w.heap.size, 0, Option.none⟩)) :
    LeavesInM Fence.wide n Tryz.prog Tryz.f112 tmps (fun en w' => en = .returned (.int .i64 e) ∧ w.grownBy w' Option.none) (Ds.map mk) .returning W := by
  refine leaves_marks Ds W hn (fun D hD => (h.marks D hD).2) fun W' a1 a2 a3 a4 a5 => ?_
  have hc : W'.heap[w.heap.size]? = some (.cells #[.int .i64 e] 29 (0, 0)) := (a5 _ (fun hm => absurd (h.marks _ hm).1 (Nat.lt_irrefl _))).trans h.cell
  have hcell := (cell_of hc).1
  refine ⟨.int .i64 e, ?_, rfl, ⟨a2.trans h.below.os, a3.trans h.below.tape, a4.trans h.below.output, by have := h.below.size; omega, fun k hk _ => (a5 k (fun hm => by have := (h.marks k hm).1; omega)).trans (h.below.block k hk)⟩⟩
  simp only [Array.getD_eq_getD_getElem?] at ht
  simp [results, Tryz.results112, go_sem, ht, hcell]

theorem mark_new {w W X : World} {e e' : Int} {Ds : List Nat} {D : Nat} (hW : ChkW w e Ds W) (hnd : Ds.Nodup) (hX : ChkW w e' Ds X) (hK : X.heap[D]? = some (.deferred (some []))) (hD : W.heap.size ≤ D) :
    ChkW w e' (D :: Ds) X ∧ (D :: Ds).Nodup ∧ mk D :: Ds.map mk = (D :: Ds).map mk := by
  have := hW.lt
  refine ⟨⟨hX.below, hX.cell, fun D' hD' => ?_⟩, List.nodup_cons.2 ⟨fun hm => by have := hW.mlt _ hm; omega, hnd⟩, rfl⟩
  rcases List.mem_cons.1 hD' with rfl | h
  · exact ⟨by omega, hK⟩
  · exact hX.marks D' h
theorem namesOf_short {p n : Str} (h : n ∈ namesOf p) : n.length ≤ p.length := by
  induction p generalizing n with
  | nil => simp [namesOf] at h; subst h; simp
  | cons c s ih =>
    simp only [namesOf] at h
    split at h
    · rcases List.mem_cons.1 h with rfl | h
      · simp
      · have := ih h; simp; omega
    · split at h
      · simp at h; subst h; simp
      · rename_i m l hm
        rcases List.mem_cons.1 h with rfl | h
        · have := ih (n := m) (by rw [hm]; simp); simp; omega
        · have := ih (n := n) (by rw [hm]; simp [h]); simp; omega
theorem pathsErr_at {ps : List Str} {i : Nat} (h : i < ps.length) : pathsErr (ps.drop i) = if pathErr ps[i] = 0 then pathsErr (ps.drop (i + 1)) else pathErr ps[i] := by
  rw [List.drop_eq_getElem_cons h]; rfl

theorem check_any (ps : List Str) (hps : ps.length ≤ 1000000) (hsz : ∀ p, p ∈ ps → p.length ≤ 140737488355328) (A : Option Addr) (cap : Nat) (w : World)
    (hA : ∀ i (h : i < ps.length), ∃ bb off, A = some ⟨bb, off, Option.none⟩ ∧ bb < w.heap.size ∧ w.cell? ⟨bb, off + i, Option.none⟩ = some (strV ps[i])) :
    Calls Tryz.prog 112 #[.slice A ps.length cap] w fun e w' => e = .returned (.int .i64 (pathsErr ps)) ∧ w.grownBy w' Option.none := by
  refine (callsIn_wide (n := 10)).1 ?_
  refine callsIn_of_wp_marks Tryz.func112 rfl trivial ?_ rfl
  simp only [Tryz.ntmps112, List.size_toArray, List.length_cons, List.length_nil, Nat.reduceAdd, Nat.reduceSub, Array.replicate_succ, Array.replicate_zero, List.push_toArray, List.append_toArray, List.cons_append, List.nil_append]
  gi_wp2
  refine wpIn_loop (fun a W => ∃ (i : Nat) (Ds : List Nat) (u4 u5 u9 u10 u11 u12 u13 u14 u15 u16 u17 u18 u19 u20 : Value), i ≤ ps.length ∧ pathsErr ps = pathsErr (ps.drop i) ∧ Ds.Nodup ∧ ChkW w 0 Ds W ∧
    a = { tmps := #[.slice A ps.length cap, undef, .pointer (some ⟨w.heap.size, 0, Option.none⟩), undef, u4, u5, .slice A ps.length cap, .int .i64 ps.length, .int .i64 i, u9, u10, u11, u12, u13, u14, u15, u16, u17, u18, u19, u20], defers := Ds.map mk })
    (fun a _ => ps.length - (intOf (a.tmps.getD 8 undef)).toNat) ⟨0, [], undef, undef, undef, undef, undef, undef, undef, undef, undef, undef, undef, undef, undef, undef, Nat.zero_le _, rfl, List.nodup_nil, ?start, rfl⟩ ?round
  case start => exact ⟨(Below.refl _ w).alloc (Nat.le_refl _) _, World.alloc_heap_new w _, nofun⟩
  case round =>
    rintro a W ⟨i, Ds, u4, u5, u9, u10, u11, u12, u13, u14, u15, u16, u17, u18, u19, u20, hi, herr, hnd, hW, rfl⟩
    have hlt0 := hW.lt
    have cE := (cell_of hW.cell).1
    have fE := (cell_of hW.cell).2
    by_cases hlt : i < ps.length
    · obtain ⟨bb, off, hAA, hbb, hcell⟩ := hA i hlt
      subst hAA
      have hc : W.cell? ⟨bb, off + i, Option.none⟩ = some (strV ps[i]) := by rw [World.cell?_of_block (hW.below.block bb hbb)]; exact hcell
      gi_wp2_with (refine ⟨trivial, ?_⟩; gi_at_call 142; refine (callsIn_wide.2 (SplitSeq_any _ _)).mono ?_; rintro e w' ⟨rfl, rfl⟩)
      have hst : ∀ e (X Y : World) row, ChkW w e Ds X → X.grownBy Y row → (∀ r, row = some r → W.heap.size ≤ r) → ChkW w e Ds Y := fun e X Y row hX hg hr => hX.grown hg fun r e => by
        have h1 := hr r e
        exact ⟨by omega, fun hm => by have := hW.mlt r hm; omega⟩
      have hpi := hsz ps[i] (List.getElem_mem hlt)
      have hW3 : ChkW w 0 Ds (((W.alloc (.cells #[strV ps[i]] 9)).alloc (.cells #[strV slash] 9)).alloc (.cells #[.int .i64 0] 3)) := hst 0 _ _ Option.none hW ⟨rfl, rfl, rfl, by simp; omega, fun k hk _ => ((Below.heap_alloc _ _ k (by simp; omega)).trans (Below.heap_alloc _ _ k (by simp; omega))).trans (Below.heap_alloc _ _ k hk)⟩ nofun
      refine wpIn_rangeFunc_cell (F := Fence.wide) rfl (by decide) (gf := 181) (lb := #[ptrV (W.heap.size + 1), ptrV W.heap.size, ptrV (W.heap.size + 2)]) rfl trivial (enters_of Tryz.func181 (by kernel_rfl) rfl) (S := W.heap.size) (names := namesOf ps[i]) (by simp) (split_iter _ (by decide) ps[i] hpi _ _ ?s0 ?s1 ?s2) rfl
        (fun pre X => (∀ x, x ∈ pre → isName x = true) ∧ ChkW w 0 Ds X) (fun pre X => (∃ x, x ∈ pre ∧ isName x = false) ∧ ChkW w 1 Ds X)
        (fun s X Y row h hg hr => ⟨h.1, hst 0 X Y row h.2 hg hr⟩) (fun s X Y row h hg hr => ⟨h.1, hst 1 X Y row h.2 hg hr⟩) ⟨nofun, hW3⟩
        (fun x => { tmps := #[.slice (some ⟨bb, off, Option.none⟩) ps.length cap, undef, .pointer (some ⟨w.heap.size, 0, Option.none⟩), undef, strV ps[i], strV x, .slice (some ⟨bb, off, Option.none⟩) ps.length cap, .int .i64 ps.length, .int .i64 i, .bool true, .pointer (some ⟨bb, off + i, Option.none⟩), strV ps[i], strV ps[i], .func (.func 181) #[] #[ptrV (W.heap.size + 1), ptrV W.heap.size, ptrV (W.heap.size + 2)], strV x, u15, u16, u17, u18, u19, u20], defers := [] }) ?assign ?body ?done ?stop
      case s0 => exact (Below.heap_alloc _ _ _ (by simp; omega)).trans ((Below.heap_alloc _ _ _ (by simp)).trans (World.alloc_heap_new W _))
      case s1 => exact (Below.heap_alloc _ _ _ (by simp)).trans (by have := World.alloc_heap_new (W.alloc (.cells #[strV ps[i]] 9)) (.cells #[strV slash] 9); rwa [World.size_alloc] at this)
      case s2 => exact (by have := World.alloc_heap_new ((W.alloc (.cells #[strV ps[i]] 9)).alloc (.cells #[strV slash] 9)) (.cells #[.int .i64 0] 3); rwa [World.size_alloc, World.size_alloc] at this)
      case assign =>
        intro l x X K hK
        gi_wp2
        exact hK
      case body =>
        rintro l pre x X ⟨hpre, hX⟩ hpx hsX
        have hxn : x ∈ namesOf ps[i] := hpx.subset (by simp)
        have hxl : x.length ≤ 9223372036854775807 := by have := namesOf_short hxn; omega
        have cX := (cell_of hX.cell).1
        have fX := (cell_of hX.cell).2
        cases hb : isName x
        · gi_wp2_with (refine ⟨trivial, ?_⟩; gi_at_call 37; refine (CallsIn.inRound l (callsIn_wide.2 (isName_any x _ hxl))).mono ?_; rintro e w1 ⟨rfl, rfl⟩)
          exact ⟨⟨by simp [World.setCell], fun k hk hle => heap_set_ne X _ (by omega)⟩, ⟨x, by simp, hb⟩, hX.set 1⟩
        · gi_wp2_with (refine ⟨trivial, ?_⟩; gi_at_call 37; refine (CallsIn.inRound l (callsIn_wide.2 (isName_any x _ hxl))).mono ?_; rintro e w1 ⟨rfl, rfl⟩)
          exact ⟨⟨Nat.le_refl _, fun _ _ _ => rfl⟩, fun y hy => (List.mem_append.1 hy).elim (hpre y) (fun e => by rw [List.mem_singleton.1 e]; exact hb), hX⟩
      case done =>
        rintro X ⟨hpre, hX⟩ hK
        obtain ⟨hX', hnd', -⟩ := mark_new hW hnd hX (D := W.heap.size + 3) (by simpa using hK) (by omega)
        have hall : (namesOf ps[i]).all isName = true := List.all_eq_true.2 hpre
        cases hgt : tooGreat ps[i]
        · have hpe : pathErr ps[i] = 0 := by simp [pathErr, hall, hgt]
          gi_wp2_with (refine ⟨trivial, ?_⟩; gi_at_call 143; refine (callsIn_wide.2 (great_any _ _)).mono ?_; rintro e w1 ⟨rfl, hg⟩; have hY := hX'.grown hg nofun)
          refine ⟨⟨i + 1, (W.heap.size + 3) :: Ds, _, _, _, _, _, _, _, _, _, _, _, _, _, _, by omega, by rw [herr, pathsErr_at hlt, hpe]; rfl, hnd', hY, rfl⟩, ?_⟩
          simp [intOf]
          omega
        · have hpe : pathErr ps[i] = 2 := by simp [pathErr, hall, hgt]
          have hz : pathsErr ps = 2 := by rw [herr, pathsErr_at hlt, hpe]; rfl
          gi_wp2_with (refine ⟨trivial, ?_⟩; gi_at_call 143; refine (callsIn_wide.2 (great_any _ _)).mono ?_; rintro e w1 ⟨rfl, hg⟩; have hY := hX'.grown hg nofun; have cY := (cell_of hY.cell).1; have fY := (cell_of hY.cell).2)
          rw [hz]
          exact leaves_check (hY.set 2) hnd' rfl
      case stop =>
        rintro pre X hpre ⟨⟨x, hx, hb⟩, hX⟩ hK
        obtain ⟨hX', hnd', -⟩ := mark_new hW hnd hX (D := W.heap.size + 3) (by simpa using hK) (by omega)
        have hall : ¬ (namesOf ps[i]).all isName = true := fun h => by
          have := List.all_eq_true.1 h x (hpre.subset hx)
          rw [hb] at this; cases this
        have hpe : pathErr ps[i] = 1 := by simp only [pathErr, hall]; rfl
        have hz : pathsErr ps = 1 := by rw [herr, pathsErr_at hlt, hpe]; rfl
        gi_wp2
        rw [hz]
        simp only [World.size_alloc]
        exact leaves_check hX' hnd' rfl
    · have hz : pathsErr ps = 0 := by rw [herr, List.drop_of_length_le (by omega)]; rfl
      gi_wp2
      rw [hz]
      exact leaves_check (hW.set 0) hnd rfl

/-- check, in the abstract layer. -/
theorem a_check (ps : List Str) (hps : ps.length ≤ 1000000) (hsz : ∀ p, p ∈ ps → p.length ≤ 140737488355328) : AFn C.P 112 [.sl false (ps.map strRow)] (.v (.int .i64 (pathsErr ps))) := by
  refine afn_of_conc rfl fun F ρ vs w hag hl hm => ?_
  obtain ⟨v, rfl⟩ : ∃ v, vs = [v] := by
    match vs, hl with
    | [v], _ => exact ⟨v, rfl⟩
  have h1 := hm 0 v _ rfl rfl
  rcases h1.sl_inv with ⟨h0, ad, cap, hv, _⟩ | ⟨b, o, cap, c, e', fr, kk, hb, _, _, hsz', hkk, hR, hv⟩
  · have hnil : ps = [] := List.map_eq_nil_iff.1 h0
    subst hnil
    rw [hv]
    exact check_any [] hps hsz ad cap w (fun i h => absurd h (Nat.not_lt_zero _))
  · rw [hv]
    have hk1 : ∀ i, i < ps.length → kk = 1 := fun i hi => (hkk _ (List.getElem_mem (l := ps.map strRow) (n := i) (by simpa using hi))).symm.trans (by simp [strRow])
    have hbw := hag b _ hb
    have := check_any ps hps hsz (some ⟨b, o, Option.none⟩) cap w (fun i hi => ⟨b, o, rfl, (Array.getElem?_eq_some_iff.1 hbw).1, ?_⟩)
    · rw [List.length_map]; exact this
    · have hk := hk1 i hi
      subst hk
      have hlt : o + i < c.size := by simp at hsz'; omega
      have hcv : c[o + i]? = some c[o + i] := Array.getElem?_eq_getElem hlt
      have hrow : (ps.map strRow)[i]? = some (strRow ps[i]) := by simp [hi]
      have hMv := hR i 0 (strRow ps[i]) (.v (str ps[i])) c[o + i] hrow rfl (by simpa using hcv)
      have := hMv.v_inv.1
      simp [World.cell?, hbw, hcv, this, str]
end Go.Proofs.YtiljlcgmcmjcoaaGreatDoor

/- Paths in the abstract layer, 4: the last sign; Split, Parent, Name, Join, In, Within, Moved. -/
set_option linter.unusedSimpArgs false
set_option linter.unnecessarySimpa false
set_option maxHeartbeats 1000000
namespace Go.Proofs.YtiljlcgmcmjcoaaGreatDoor
open Go.Ab Go.RowKit
set_option maxRecDepth 10000
attribute [local irreducible] Awp Ops OpsX Wanted Red ExOk Go.Ab.Fin ACall Rz RzL RzRows Enters ResOk RenV RenVL ArgV ArgVL

theorem a_lastB (s : Str) (c : UInt8) (hs : s.length ≤ 9223372036854775807) : AFn C.P 194 [.v (str s), .v (.int .u8 (c.toNat : Int))] (.v (.int .i64 (lastIdx c s))) := by
  refine acall_intro Tryz.func194 rfl _ Tryz.ntmps194 (Nat.le_of_ble_eq_true rfl) _ Tryz.results194 0 rfl rfl ?_
  repeat' (first | refine walk ?_ | fail | ((first | (apply awp_cond; rfl)); all_goals (intro hc; have hp := hc; first | (simp at hp; done) | ((try simp at hp); first | (exfalso; omega) | skip))) | (apply awp_cond_any; rfl))
  (refine Awp.red (red_pure (ts := [(0, .v (str s)), (1, .v (.int .u8 (c.toNat : Int))), (5, .v (.int .i64 ((s.length : Int) - 1 - ((0 : Nat) : Int))))]) ?_) ?_; ((repeat (first | exact tsok_nil | refine p_pure ?_ | refine p_eq ?_ ?_))))
  all_goals try (apply av_int; omega)
  refine awp_loop (fun n σ => ∃ i : Nat, i ≤ s.length ∧ n = s.length - i ∧ (c ∉ s.drop (s.length - i)) ∧ σ = ⟨[(0, .v (str s)), (1, .v (.int .u8 (c.toNat : Int))), (5, .v (.int .i64 ((s.length : Int) - 1 - (i : Int))))], [], C.nh⟩) s.length ⟨0, Nat.zero_le _, rfl, (by simp), rfl⟩ ?_
  rintro n σ ⟨i, hi, rfl, hsofar, rfl⟩
  by_cases hlt : i < s.length
  · have hx : (s.length : Int) - 1 - (i : Int) = ((s.length - 1 - i : Nat) : Int) := by omega
    have hk : s.length - 1 - i < s.length := by omega
    have hr : s[s.length - 1 - i]? = some s[s.length - 1 - i] := List.getElem?_eq_getElem hk
    rw [hx]
    repeat' (first | refine walk ?_ | fail | ((first | (apply awp_cond; rfl)); all_goals (intro hc; have hp := hc; first | (simp at hp; done) | ((try simp at hp); first | (exfalso; omega) | skip))) | (apply awp_cond_any; rfl))
    all_goals try (exfalso; omega)
    · apply fin_int
      rfl
      have hc : s[s.length - 1 - i] = c := UInt8.toNat.inj (by omega)
      exact (lastIdx_is hk hc (by rw [show s.length - 1 - i + 1 = s.length - i from by omega]; exact hsofar)).symm
    · have hc : ¬ s[s.length - 1 - i] = c := fun e => by subst e; omega
      have hnext : c ∉ s.drop (s.length - (i + 1)) := by
        rw [show s.length - (i + 1) = s.length - 1 - i from by omega, List.drop_eq_getElem_cons hk, show s.length - 1 - i + 1 = s.length - i from by omega]
        simp only [List.mem_cons, not_or]
        exact ⟨fun e => hc e.symm, hsofar⟩
      refine ⟨s.length - (i + 1), _, by omega, red_pure (ts := [(0, .v (str s)), (1, .v (.int .u8 (c.toNat : Int))), (5, .v (.int .i64 ((s.length : Int) - 1 - ((i + 1 : Nat) : Int))))]) ?_, i + 1, by omega, rfl, hnext, rfl⟩; ((repeat (first | exact tsok_nil | refine p_pure ?_ | refine p_eq ?_ ?_)); all_goals (apply av_int; omega))
  obtain rfl : i = s.length := by omega
  rw [show (s.length : Int) - 1 - (s.length : Int) = -1 from by omega]
  repeat' (first | refine walk ?_ | fail | ((first | (apply awp_cond; rfl)); all_goals (intro hc; have hp := hc; first | (simp at hp; done) | ((try simp at hp); first | (exfalso; omega) | skip))) | (apply awp_cond_any; rfl))
  all_goals try (exfalso; omega)
  apply fin_int
  rfl
  have : c ∉ s := by simpa using hsofar
  exact (lastIdx_none this).symm
theorem a_last (s : Str) (c : UInt8) (hs : s.length ≤ 9223372036854775807) : AFn C.P 180 [.v (str s), .v (.int .u8 (c.toNat : Int))] (.v (.int .i64 (lastIdx c s))) := by
  refine acall_intro Tryz.func180 rfl _ Tryz.ntmps180 (Nat.le_of_ble_eq_true rfl) _ Tryz.results180 0 rfl rfl ?_
  repeat' (first | refine walk ?_ | (first | (apply to_call Tryz.func194 rfl rfl; intro hIsFn; refine o_callf hIsFn (a_lastB s c hs ..) ?_; skip)) | ((first | (apply awp_cond; rfl)); all_goals (intro hc; have hp := hc; first | (simp at hp; done) | ((try simp at hp); first | (exfalso; omega) | skip))) | (apply awp_cond_any; rfl))
  apply fin_int
  rfl
  rfl
theorem a_split (s : Str) (hs : s.length ≤ 9223372036854775800) : AFn C.P 169 [.v (str s)] (.tup [.v (str (parentOf s)), .v (str (lastOf s))]) := by
  have hl := a_last s 47 (by omega)
  have hbd := lastIdx_bd 47 s
  have hpd : parentOf s = s.take (lastIdx 47 s).toNat := rfl
  have hld : lastOf s = s.drop (lastIdx 47 s + 1).toNat := rfl
  generalize lastIdx 47 s = k at hl hbd hpd hld
  refine acall_intro Tryz.func169 rfl _ Tryz.ntmps169 (Nat.le_of_ble_eq_true rfl) _ Tryz.results169 0 rfl rfl ?_
  repeat' (first | refine walk ?_ | (first | (apply to_call Tryz.func180 rfl rfl; intro hIsFn; refine o_callf hIsFn (hl ..) ?_; skip) | (apply opsx_val; apply ex_max0; (case hx => rfl); (case hy => rfl); (case hN => exact nle rfl)) | (apply opsx_val; apply ex_slice_str (a := 0) (b := k.toNat); (case hx => rfl); (case hT => rfl); (case he => rfl); (case ha => rfl); (case hb => exact ⟨_, rfl⟩); (case hab => (first | omega | (simp; done) | (simp only [List.length_cons, List.length_nil, List.length_map]; omega) | (simp; omega))); (case hbl => (first | omega | (simp; done) | (simp only [List.length_cons, List.length_nil, List.length_map]; omega) | (simp; omega))); (case hN => exact nle rfl)) | (apply opsx_val; apply ex_slice_str (a := (k + 1).toNat) (b := s.length); (case hx => rfl); (case hT => rfl); (case he => rfl); (case ha => exact ⟨_, av_int (by omega)⟩); (case hb => rfl); (case hab => (first | omega | (simp; done) | (simp only [List.length_cons, List.length_nil, List.length_map]; omega) | (simp; omega))); (case hbl => (first | omega | (simp; done) | (simp only [List.length_cons, List.length_nil, List.length_map]; omega) | (simp; omega))); (case hN => exact nle rfl))) | ((first | (apply awp_cond; rfl)); all_goals (intro hc; have hp := hc; first | (simp at hp; done) | ((try simp at hp); first | (exfalso; omega) | skip))) | (apply awp_cond_any; rfl))
  all_goals try (exfalso; omega)
  (refine f_pure (rs := [.tmp 2, .tmp 3]) ?_; (repeat' (first | exact rzl_nil | apply rzl_cons | exact rz_pure rfl | exact rz_ex | exact z_os | apply rz_agg | apply rz_tup | apply rz_clo | apply rz_int | apply rz_bool | apply rz_str | refine z_eq ?_ | apply rz_sl)); all_goals (first | exact hpd.symm | (rw [hld, List.take_length])))
end Go.Proofs.YtiljlcgmcmjcoaaGreatDoor

/- Paths in the abstract layer, 5: Check, Parent, Name, Join, In, Within, Moved. -/
set_option linter.unusedSimpArgs false
set_option linter.unnecessarySimpa false
set_option maxHeartbeats 1000000
namespace Go.Proofs.YtiljlcgmcmjcoaaGreatDoor
open Go.Ab Go.RowKit
set_option maxRecDepth 10000
attribute [local irreducible] Awp Ops OpsX Wanted Red ExOk Go.Ab.Fin ACall Rz RzL RzRows Enters ResOk RenV RenVL ArgV ArgVL

theorem prefix_take (q s : Str) : q.isPrefixOf s = (decide (q.length ≤ s.length) && decide (s.take q.length = q)) := by
  rw [Bool.eq_iff_iff, List.isPrefixOf_iff_prefix, Bool.and_eq_true, decide_eq_true_iff, decide_eq_true_iff, List.prefix_iff_eq_take]
  constructor
  · intro h
    have h2 := congrArg List.length h
    rw [List.length_take] at h2
    exact ⟨by omega, h.symm⟩
  · rintro ⟨_, h⟩; exact h.symm
theorem a_prefixL (s q : Str) : AFn C.P 205 [.v (str s), .v (str q)] (.v (.bool (q.isPrefixOf s))) := by
  have hpt := prefix_take q s
  refine acall_intro Tryz.func205 rfl _ Tryz.ntmps205 (Nat.le_of_ble_eq_true rfl) _ Tryz.results205 0 rfl rfl ?_
  repeat' (first | refine walk ?_ | (first | (apply opsx_val; apply ex_slice_str (a := 0) (b := q.length); (case hx => rfl); (case hT => rfl); (case he => rfl); (case ha => rfl); (case hb => exact ⟨_, rfl⟩); (case hab => (first | omega | (simp; done) | (simp only [List.length_cons, List.length_nil, List.length_map]; omega) | (simp; omega))); (case hbl => (first | omega | (simp; done) | (simp only [List.length_cons, List.length_nil, List.length_map]; omega) | (simp; omega))); (case hN => exact nle rfl))) | ((first | (apply ops_split_t; rfl; rfl; exact nle rfl) | (apply ops_split_f; rfl; rfl; exact nle rfl) | (apply awp_cond; rfl)); all_goals (intro hc; have hp := hc; first | (simp at hp; done) | ((try simp at hp); first | (exfalso; omega) | skip))) | (apply awp_cond_any; rfl))
  all_goals try (exfalso; omega)
  · apply fin_bool
    rfl
    have : q.length ≤ s.length := by omega
    rw [hpt]; simp [this]
  · apply fin_bool
    rfl
    have : ¬ q.length ≤ s.length := by omega
    rw [hpt]; simp [this]
theorem a_prefix (s q : Str) : AFn C.P 197 [.v (str s), .v (str q)] (.v (.bool (q.isPrefixOf s))) := by
  refine acall_intro Tryz.func197 rfl _ Tryz.ntmps197 (Nat.le_of_ble_eq_true rfl) _ Tryz.results197 0 rfl rfl ?_
  repeat' (first | refine walk ?_ | (first | (apply to_call Tryz.func205 rfl rfl; intro hIsFn; refine o_callf hIsFn (a_prefixL s q ..) ?_; skip)) | ((first | (apply awp_cond; rfl)); all_goals (intro hc; have hp := hc; first | (simp at hp; done) | ((try simp at hp); first | (exfalso; omega) | skip))) | (apply awp_cond_any; rfl))
  apply fin_bool
  rfl
  rfl
theorem a_in (p q : Str) (hq : q.length ≤ 140737488355328) : AFn C.P 186 [.v (str p), .v (str q)] (.v (.bool (inB p q))) := by
  have hpr := a_prefix p (q ++ [47])
  refine acall_intro Tryz.func186 rfl _ Tryz.ntmps186 (Nat.le_of_ble_eq_true rfl) _ Tryz.results186 0 rfl rfl ?_
  repeat' (first | refine walk ?_ | (first | (apply to_call Tryz.func197 rfl rfl; intro hIsFn; refine o_callf hIsFn (hpr ..) ?_; skip)) | ((first | (apply ops_split_t; rfl; rfl; exact nle rfl) | (apply ops_split_f; rfl; rfl; exact nle rfl) | (apply awp_cond; rfl)); all_goals (intro hc; have hp := hc; first | (simp at hp; done) | ((try simp at hp); first | (exfalso; omega) | skip))) | (apply awp_cond_any; rfl))
  all_goals (apply fin_bool; rfl; simp_all [inB])
theorem pathsErr_one (p : Str) : pathsErr [p] = pathErr p := by
  simp only [pathsErr]; split <;> simp_all
theorem a_check1 (p : Str) (hp : p.length ≤ 140737488355328) : AFn C.P 112 [.sl false [[.v (str p)]]] (.v (.int .i64 (pathErr p))) := by
  have := a_check [p] (by simp) (by simpa using hp)
  rw [pathsErr_one] at this
  exact this
theorem a_pcheck (p : Str) (hp : p.length ≤ 140737488355328) : AFn C.P 66 [.v (str p)] (.v (.int .i64 (pathErr p))) := by
  have hch := a_check1 p hp
  refine acall_intro Tryz.func66 rfl _ Tryz.ntmps66 (Nat.le_of_ble_eq_true rfl) _ Tryz.results66 0 rfl rfl ?_
  repeat' (first | refine walk ?_ | (first | (refine o_fzl ?_) | (apply to_call Tryz.func112 rfl rfl; intro hIsFn; refine o_callp hIsFn (hch ..) ?_)) | ((first | (apply awp_cond; rfl)); all_goals (intro hc; have hp := hc; first | (simp at hp; done) | ((try simp at hp); first | (exfalso; omega) | skip))) | (apply awp_cond_any; rfl))
  apply fin_int
  rfl
  rfl
def okOr (e : Int) (s : Str) : Str := if e = 0 then s else []
def movedErr (p f t : Str) : Int := if pathsErr [p, f, t] = 0 then (if inB p f then (if tooGreat (t ++ p.drop f.length) then 2 else 0) else 5) else pathsErr [p, f, t]
theorem inB_len {p f : Str} (h : inB p f = true) : f.length ≤ p.length := by
  simp only [inB, Bool.or_eq_true, decide_eq_true_eq, List.isPrefixOf_iff_prefix] at h
  rcases h with rfl | h
  · exact Nat.le_refl _
  · have := h.length_le; simp at this; omega
theorem a_moved (p f t : Str) (hp : p.length ≤ 140737488355328) (hf : f.length ≤ 140737488355328) (ht : t.length ≤ 140737488355328) : AFn C.P 191 [.v (str p), .v (str f), .v (str t)] (.tup [.v (str (okOr (movedErr p f t) (t ++ p.drop f.length))), .v (.int .i64 (movedErr p f t))]) := by
  have hch : AFn C.P 112 [.sl false [[.v (str p)], [.v (str f)], [.v (str t)]]] (.v (.int .i64 (pathsErr [p, f, t]))) := a_check [p, f, t] (by simp) (by simpa using ⟨hp, hf, ht⟩)
  have hi := a_in p f hf
  have hg := a_great (t ++ p.drop f.length)
  have hln := @inB_len p f
  have htk : p.take p.length = p := List.take_length
  cases hb : inB p f with
  | false =>
    rw [hb] at hi
    refine acall_intro Tryz.func191 rfl _ Tryz.ntmps191 (Nat.le_of_ble_eq_true rfl) _ Tryz.results191 0 rfl rfl ?_
    repeat' (first | refine walk ?_ | (first | (refine o_fzl ?_) | (apply to_call Tryz.func112 rfl rfl; intro hIsFn; refine o_callp hIsFn (hch ..) ?_) | (apply to_call Tryz.func186 rfl rfl; intro hIsFn; refine o_callf hIsFn (hi ..) ?_; skip)) | ((first | (apply awp_cond; rfl)); all_goals (intro hc; have hp := hc; first | (simp at hp; done) | ((try simp at hp); first | (exfalso; omega) | skip))) | (apply awp_cond_any; rfl))
    all_goals ((refine f_pure (rs := [.tmp 6, .tmp 7]) ?_; (repeat' (first | exact rzl_nil | apply rzl_cons | exact rz_pure rfl | exact rz_ex | exact z_os | apply rz_agg | apply rz_tup | apply rz_clo | apply rz_int | apply rz_bool | apply rz_str | refine z_eq ?_ | apply rz_sl)); all_goals (simp_all [okOr, movedErr])))
  | true =>
    rw [hb] at hi
    have hfl := hln hb
    have hdl : (p.drop f.length).length ≤ p.length := by simp
    refine acall_intro Tryz.func191 rfl _ Tryz.ntmps191 (Nat.le_of_ble_eq_true rfl) _ Tryz.results191 0 rfl rfl ?_
    repeat' (first | refine walk ?_ | (first | (refine o_fzl ?_) | (apply to_call Tryz.func112 rfl rfl; intro hIsFn; refine o_callp hIsFn (hch ..) ?_) | (apply to_call Tryz.func186 rfl rfl; intro hIsFn; refine o_callf hIsFn (hi ..) ?_; skip) | (apply opsx_val; apply ex_slice_str (a := f.length) (b := p.length); (case hx => rfl); (case hT => rfl); (case he => rfl); (case ha => exact ⟨_, rfl⟩); (case hb => rfl); (case hab => (first | omega | (simp; done) | (simp only [List.length_cons, List.length_nil, List.length_map]; omega) | (simp; omega))); (case hbl => (first | omega | (simp; done) | (simp only [List.length_cons, List.length_nil, List.length_map]; omega) | (simp; omega))); (case hN => exact nle rfl)) | (apply to_call Tryz.func143 rfl rfl; intro hIsFn; refine o_callf hIsFn ((htk.symm ▸ hg) ..) ?_; skip)) | ((first | (apply awp_cond; rfl)); all_goals (intro hc; have hp := hc; first | (simp at hp; done) | ((try simp at hp); first | (exfalso; omega) | skip))) | (apply awp_cond_any; rfl))
    all_goals ((refine f_pure (rs := [.tmp 6, .tmp 7]) ?_; (repeat' (first | exact rzl_nil | apply rzl_cons | exact rz_pure rfl | exact rz_ex | exact z_os | apply rz_agg | apply rz_tup | apply rz_clo | apply rz_int | apply rz_bool | apply rz_str | refine z_eq ?_ | apply rz_sl)); all_goals (simp_all [okOr, movedErr])))
end Go.Proofs.YtiljlcgmcmjcoaaGreatDoor

/- Paths in the abstract layer, 6: two digits; TrimRight at a blank; Aside. -/
set_option linter.unusedSimpArgs false
set_option linter.unnecessarySimpa false
set_option maxHeartbeats 1000000
namespace Go.Proofs.YtiljlcgmcmjcoaaGreatDoor
open Go.Ab Go.RowKit
set_option maxRecDepth 10000
attribute [local irreducible] Awp Ops OpsX Wanted Red ExOk Go.Ab.Fin ACall Rz RzL RzRows Enters ResOk RenV RenVL ArgV ArgVL

end Go.Proofs.YtiljlcgmcmjcoaaGreatDoor

/- Paths in the abstract layer, 7: Aside. -/
set_option linter.unusedSimpArgs false
set_option linter.unnecessarySimpa false
set_option maxHeartbeats 1000000
namespace Go.Proofs.YtiljlcgmcmjcoaaGreatDoor
open Go.Ab Go.RowKit
set_option maxRecDepth 10000
attribute [local irreducible] Awp Ops OpsX Wanted Red ExOk Go.Ab.Fin ACall Rz RzL RzRows Enters ResOk RenV RenVL ArgV ArgVL

end Go.Proofs.YtiljlcgmcmjcoaaGreatDoor

/- Paths in the abstract layer, 8: the reference's NamesOf, TooGreat, CheckPath, CheckPaths. -/
set_option linter.unusedSimpArgs false
set_option linter.unnecessarySimpa false
set_option maxHeartbeats 1000000
namespace Go.Proofs.YtiljlcgmcmjcoaaGreatDoor
open Go.Ab Go.RowKit
set_option maxRecDepth 10000
attribute [local irreducible] Awp Ops OpsX Wanted Red ExOk Go.Ab.Fin ACall Rz RzL RzRows Enters ResOk RenV RenVL ArgV ArgVL

def fromN (p : Str) (i : Nat) : Nat := i - (lastOf (p.take i)).length
def nsL (p : Str) (i : Nat) : List Str := (namesOf (p.take i)).dropLast
@[simp] theorem nsL_zero (p : Str) : nsL p 0 = [] := rfl
@[simp] theorem fromN_zero (p : Str) : fromN p 0 = 0 := rfl
@[simp] theorem cellsOf_str (s : Str) : cellsOf (AV.v (str s)) = [AV.v (str s)] := rfl
end Go.Proofs.YtiljlcgmcmjcoaaGreatDoor

/- Paths in the abstract layer, 9: the reference's PathOf, ParentOf, LastOf, Joined, IsIn. -/
set_option linter.unusedSimpArgs false
set_option linter.unnecessarySimpa false
set_option maxHeartbeats 1000000
namespace Go.Proofs.YtiljlcgmcmjcoaaGreatDoor
open Go.Ab Go.RowKit
set_option maxRecDepth 10000
attribute [local irreducible] Awp Ops OpsX Wanted Red ExOk Go.Ab.Fin ACall Rz RzL RzRows Enters ResOk RenV RenVL ArgV ArgVL

end Go.Proofs.YtiljlcgmcmjcoaaGreatDoor

/- Paths: Pa9, under the name that the trees know it by. -/

/- Trees in the abstract layer, 1: versions, entries, the place of a path, the parent. -/
set_option linter.unusedSimpArgs false
set_option linter.unnecessarySimpa false
set_option maxHeartbeats 1000000
namespace Go.Proofs.YtiljlcgmcmjcoaaGreatDoor
open Go.Ab Go.RowKit
set_option maxRecDepth 10000
attribute [local irreducible] Awp Ops OpsX Wanted Red ExOk Go.Ab.Fin ACall Rz RzL RzRows Enters ResOk RenV RenVL ArgV ArgVL

theorem a_isNaN (s : Str) : AFn C.P 131 [.v (str s)] (.v (.bool false)) := by
  refine acall_intro Tryz.func131 rfl _ Tryz.ntmps131 (Nat.le_of_ble_eq_true rfl) _ Tryz.results131 0 rfl rfl ?_
  repeat' (first | refine walk ?_ | fail | ((first | (apply awp_cond; rfl)); all_goals (intro hc; have hp := hc; first | (simp at hp; done) | ((try simp at hp); first | (exfalso; omega) | skip))) | (apply awp_cond_any; rfl))
  all_goals (apply fin_bool; rfl; simp)
theorem a_compare (a b : Str) : AFn C.P 100 [.v (str a), .v (str b)] (.v (.int .i64 (strCmp a b))) := by
  refine acall_intro Tryz.func100 rfl _ Tryz.ntmps100 (Nat.le_of_ble_eq_true rfl) _ Tryz.results100 0 rfl rfl ?_
  repeat' (first | refine walk ?_ | (first | (apply to_call Tryz.func131 rfl rfl; intro hIsFn; refine o_callf hIsFn (a_isNaN ..) ?_; skip)) | ((first | (apply awp_cond; rfl)); all_goals (intro hc; have hp := hc; first | (simp at hp; done) | ((try simp at hp); first | (exfalso; omega) | skip))) | (apply awp_cond_any; rfl))
  all_goals (apply fin_int; rfl; simp_all [strCmp])
theorem a_isVerT (n : Int) : AFn C.P 148 [.v (.int .i64 n)] (.v (.bool (isVer n))) := by
  refine acall_intro Tryz.func148 rfl _ Tryz.ntmps148 (Nat.le_of_ble_eq_true rfl) _ Tryz.results148 0 rfl rfl ?_
  repeat' (first | refine walk ?_ | fail | ((first | (apply ops_split_t; rfl; rfl; exact nle rfl) | (apply ops_split_f; rfl; rfl; exact nle rfl) | (apply awp_cond; rfl)); all_goals (intro hc; have hp := hc; first | (simp at hp; done) | ((try simp at hp); first | (exfalso; omega) | skip))) | (apply awp_cond_any; rfl))
  all_goals (apply fin_bool; rfl; simp_all [isVer]; try (intro _; omega))
theorem a_checkEntry (e : Ent) (he : e.small) : AFn C.P 140 [.agg e.row] (.v (.int .i64 (entErr e))) := by
  have h1 := he.1
  have h2 := he.2
  have hp := a_pcheck e.path (by omega)
  have hv := a_isVerT e.ver
  have hE : entErr e = if pathErr e.path = 0 then (if e.fold = true ∧ ¬ e.text = [] then 1 else if 300 < e.text.length then 2 else if isVer e.ver = true then 0 else 3) else pathErr e.path := rfl
  generalize entErr e = E at *
  generalize isVer e.ver = V at *
  generalize pathErr e.path = F at *
  refine acall_intro Tryz.func140 rfl _ Tryz.ntmps140 (Nat.le_of_ble_eq_true rfl) _ Tryz.results140 0 rfl rfl ?_
  repeat' (first | refine walk ?_ | (first | (apply to_call Tryz.func66 rfl rfl; intro hIsFn; refine o_callf hIsFn (hp ..) ?_; skip) | (apply to_call Tryz.func148 rfl rfl; intro hIsFn; refine o_callf hIsFn (hv ..) ?_; skip)) | ((first | (apply ops_split_t; rfl; rfl; exact nle rfl) | (apply ops_split_f; rfl; rfl; exact nle rfl) | (apply awp_cond; rfl)); all_goals (intro hc; have hp := hc; first | (simp at hp; done) | ((try simp at hp); first | (exfalso; omega) | skip))) | (apply awp_cond_any; rfl))
  all_goals try (exfalso; omega)
  all_goals (apply fin_int; rfl; rw [hE]; simp_all; try omega)
theorem a_atC (e : Ent) (p : Str) : AFn C.P 114 [.agg e.row, .v (str p)] (.v (.int .i64 (strCmp e.path p))) := by
  refine acall_intro Tryz.func114 rfl _ Tryz.ntmps114 (Nat.le_of_ble_eq_true rfl) _ Tryz.results114 0 rfl rfl ?_
  repeat' (first | refine walk ?_ | (first | (apply to_call Tryz.func100 rfl rfl; intro hIsFn; refine o_callf hIsFn (a_compare ..) ?_; skip)) | ((first | (apply awp_cond; rfl)); all_goals (intro hc; have hp := hc; first | (simp at hp; done) | ((try simp at hp); first | (exfalso; omega) | skip))) | (apply awp_cond_any; rfl))
  all_goals (apply fin_int; rfl; rfl)
theorem a_searchE (l : List Ent) (p : Str) (hl : l.length ≤ 140737488355328) (hs : rising entLt l = true) :
    AFn C.P 113 [entAV l, .v (str p), .clo (.func 114) [] []] (.tup [.v (.int .i64 (posE l p)), .v (.bool (hitE l p))]) := by
  refine acall_intro Tryz.func113 rfl _ Tryz.ntmps113 (Nat.le_of_ble_eq_true rfl) _ Tryz.results113 0 rfl rfl ?_
  repeat' (first | refine walk ?_ | fail | ((first | (apply ops_split_t; rfl; rfl; exact nle rfl) | (apply ops_split_f; rfl; rfl; exact nle rfl) | (apply awp_cond; rfl)); all_goals (intro hc; have hp := hc; first | (simp at hp; done) | ((try simp at hp); first | (exfalso; omega) | skip))) | (apply awp_cond_any; rfl))
  (refine Awp.red (red_pure (ts := [(0, entAV l), (1, .v (str p)), (2, .clo (.func 114) [] []), (8, .v (.int .i64 l.length)), (9, .v (.int .i64 ((0 : Nat) : Int))), (10, .v (.int .i64 l.length))]) ?_) ?_; ((repeat (first | exact tsok_nil | refine p_pure ?_ | refine p_eq ?_ ?_))))
  all_goals try (rw [List.length_map]; done)
  refine awp_loop (fun n σ => ∃ lo hi : Nat, lo ≤ hi ∧ hi ≤ l.length ∧ n = hi - lo ∧ (∀ (k : Nat) (h : k < l.length), k < lo → Op.bytesLess l[k].path p = true) ∧ (∀ (k : Nat) (h : k < l.length), hi ≤ k → Op.bytesLess l[k].path p = false) ∧ σ = ⟨[(0, entAV l), (1, .v (str p)), (2, .clo (.func 114) [] []), (8, .v (.int .i64 l.length)), (9, .v (.int .i64 ((lo : Nat) : Int))), (10, .v (.int .i64 ((hi : Nat) : Int)))], [], C.nh⟩) l.length ⟨0, l.length, by omega, Nat.le_refl _, rfl, fun _ _ h => absurd h (by omega), fun _ _ h => absurd h (by omega), rfl⟩ ?_
  rintro n σ ⟨lo, hi, hle, hhi, rfl, h1, h2, rfl⟩
  by_cases hlt : lo < hi
  · obtain ⟨m, hm⟩ : ∃ m : Nat, m = (lo + hi) / 2 := ⟨_, rfl⟩
    have hmi : ((lo : Int) + (hi : Int)) / 2 = (m : Int) := by omega
    have hml : m < l.length := by omega
    have hr := getRow (f := Ent.row) hml
    have hr2 : (l.map Ent.row)[(((lo : Int) + (hi : Int)) / 2).toNat]? = some l[m].row := by rw [hmi]; exact hr
    repeat' (first | refine walk ?_ | (first | (apply opsx_val; first | (apply ex_conv_u; rfl; rfl; rfl; rfl; rfl; omega; omega; exact nle rfl) | (apply ex_conv_i; rfl; rfl; rfl; rfl; rfl; omega; omega; exact nle rfl)) | (apply opsx_val; apply ex_half; (case hx => rfl); (case hy => rfl); (case hk => decide); (case hN => exact nle rfl)) | (refine o_callv Tryz.func114 (a_atC ..) ?_)) | ((first | (apply ops_split_t; rfl; rfl; exact nle rfl) | (apply ops_split_f; rfl; rfl; exact nle rfl) | (apply awp_cond; rfl)); all_goals (intro hc; have hp := hc; first | (simp at hp; done) | ((try simp at hp); first | (exfalso; omega) | skip))) | (apply awp_cond_any; rfl))
    all_goals try (exfalso; omega)
    · have hmg : Op.bytesLess l[m].path p = true := (strCmp_neg _ _).1 hp
      refine ⟨hi - (m + 1), _, by omega, red_pure (ts := [(0, entAV l), (1, .v (str p)), (2, .clo (.func 114) [] []), (8, .v (.int .i64 l.length)), (9, .v (.int .i64 ((m + 1 : Nat) : Int))), (10, .v (.int .i64 ((hi : Nat) : Int)))]) ?_, m + 1, hi, by omega, hhi, rfl, fun k h hk => ?_, h2, rfl⟩
      · (repeat (first | exact tsok_nil | refine p_pure ?_ | refine p_eq ?_ ?_))
        all_goals (rw [hmi]; rfl)
      · by_cases e : k = m
        · subst e; exact hmg
        · exact bl_trans (rising_ltE hs k m h hml (by omega)) hmg
    · have hmg : Op.bytesLess l[m].path p = false := (by
        cases h : Op.bytesLess l[m].path p
        · rfl
        · have := (strCmp_neg _ _).2 h; omega)
      refine ⟨m - lo, _, by omega, red_pure (ts := [(0, entAV l), (1, .v (str p)), (2, .clo (.func 114) [] []), (8, .v (.int .i64 l.length)), (9, .v (.int .i64 ((lo : Nat) : Int))), (10, .v (.int .i64 ((m : Nat) : Int)))]) ?_, lo, m, by omega, by omega, rfl, h1, fun k h hk => ?_, rfl⟩
      · (repeat (first | exact tsok_nil | refine p_pure ?_ | refine p_eq ?_ ?_))
        all_goals (rw [hmi])
      · by_cases e : k = m
        · subst e; exact hmg
        · cases hkg : Op.bytesLess l[k].path p
          · rfl
          · rw [bl_trans (rising_ltE hs m k hml h (by omega)) hkg] at hmg; cases hmg
  obtain rfl : lo = hi := by omega
  have hpos : posE l p = lo := posE_is hhi h1 (fun h => h2 lo h (by omega))
  by_cases hin : lo < l.length
  · have hr := getRow (f := Ent.row) hin
    have hhit : hitE l p = decide (strCmp l[lo].path p = 0) := by
      rw [hitE_pos hs, hpos, List.getElem?_eq_getElem hin]
    repeat' (first | refine walk ?_ | (first | (refine o_callv Tryz.func114 (a_atC ..) ?_)) | ((first | (apply ops_split_t; rfl; rfl; exact nle rfl) | (apply ops_split_f; rfl; rfl; exact nle rfl) | (apply awp_cond; rfl)); all_goals (intro hc; have hp := hc; first | (simp at hp; done) | ((try simp at hp); first | (exfalso; omega) | skip))) | (apply awp_cond_any; rfl))
    all_goals try (exfalso; omega)
    rw [hpos, hhit]
    (refine f_pure (rs := [.tmp 6, .tmp 7]) ?_; (repeat' (first | exact rzl_nil | apply rzl_cons | exact rz_pure rfl | exact rz_ex | exact z_os | apply rz_agg | apply rz_tup | apply rz_clo | apply rz_int | apply rz_bool | apply rz_str | refine z_eq ?_ | apply rz_sl)); all_goals trace_state)
  · have hhit : hitE l p = false := by
      rw [hitE_pos hs, hpos, List.getElem?_eq_none (by omega)]
    repeat' (first | refine walk ?_ | (first | (refine o_callv Tryz.func114 (a_atC ..) ?_)) | ((first | (apply ops_split_t; rfl; rfl; exact nle rfl) | (apply ops_split_f; rfl; rfl; exact nle rfl) | (apply awp_cond; rfl)); all_goals (intro hc; have hp := hc; first | (simp at hp; done) | ((try simp at hp); first | (exfalso; omega) | skip))) | (apply awp_cond_any; rfl))
    all_goals try (exfalso; omega)
    rw [hpos, hhit]
    (refine f_pure (rs := [.tmp 6, .tmp 7]) ?_; (repeat' (first | exact rzl_nil | apply rzl_cons | exact rz_pure rfl | exact rz_ex | exact z_os | apply rz_agg | apply rz_tup | apply rz_clo | apply rz_int | apply rz_bool | apply rz_str | refine z_eq ?_ | apply rz_sl)); all_goals trace_state)
theorem a_at (l : List Ent) (p : Str) (hl : l.length ≤ 140737488355328) (hs : rising entLt l = true) :
    AFn C.P 67 [entAV l, .v (str p)] (.tup [.v (.int .i64 (posE l p)), .v (.bool (hitE l p))]) := by
  have hse := a_searchE l p hl hs
  refine acall_intro Tryz.func67 rfl _ Tryz.ntmps67 (Nat.le_of_ble_eq_true rfl) _ Tryz.results67 0 rfl rfl ?_
  repeat' (first | refine walk ?_ | (first | (apply to_call Tryz.func113 rfl rfl; intro hIsFn; refine o_callp hIsFn (hse ..) ?_)) | ((first | (apply awp_cond; rfl)); all_goals (intro hc; have hp := hc; first | (simp at hp; done) | ((try simp at hp); first | (exfalso; omega) | skip))) | (apply awp_cond_any; rfl))
  (refine f_pure (rs := [.tmp 4, .tmp 5]) ?_; (repeat' (first | exact rzl_nil | apply rzl_cons | exact rz_pure rfl | exact rz_ex | exact z_os | apply rz_agg | apply rz_tup | apply rz_clo | apply rz_int | apply rz_bool | apply rz_str | refine z_eq ?_ | apply rz_sl)); all_goals trace_state)
end Go.Proofs.YtiljlcgmcmjcoaaGreatDoor

/- Trees in the abstract layer, 2: the parent; checkTree, check, Check. -/
set_option linter.unusedSimpArgs false
set_option linter.unnecessarySimpa false
set_option maxHeartbeats 1000000
namespace Go.Proofs.YtiljlcgmcmjcoaaGreatDoor
open Go.Ab Go.RowKit
set_option maxRecDepth 10000
attribute [local irreducible] Awp Ops OpsX Wanted Red ExOk Go.Ab.Fin ACall Rz RzL RzRows Enters ResOk RenV RenVL ArgV ArgVL

def parEnt (l : List Ent) (p : Str) : Ent := if parentOf p = [] then ⟨[], true, [], 0⟩ else match l.find? (atP (parentOf p)) with | some x => x | none => ⟨[], false, [], 0⟩
def parOk (l : List Ent) (p : Str) : Bool := decide (parentOf p = []) || hitE l (parentOf p)
theorem parEnt_err (l : List Ent) (p : Str) : folderErr l (parentOf p) = if parOk l p = true then (if (parEnt l p).fold = true then 0 else 4) else 5 := by
  unfold folderErr parOk parEnt
  by_cases h : parentOf p = []
  · simp [h]
  · cases hh : hitE l (parentOf p) with
    | true =>
      obtain ⟨x, hx, hk⟩ := List.any_eq_true.1 hh
      cases hf : l.find? (atP (parentOf p)) with
      | none => rw [List.find?_eq_none] at hf; exact absurd hk (hf x hx)
      | some y => simp [h]
    | false => simp [h, (hitE_none hh).1]
theorem a_parentT (l : List Ent) (p : Str) (hl : l.length ≤ 140737488355328) (hs : rising entLt l = true) (hp : p.length ≤ 140737488355328) :
    AFn C.P 141 [entAV l, .v (str p)] (.tup [.agg (parEnt l p).row, .v (.bool (parOk l p))]) := by
  have hsp := a_split p (by omega)
  have hat := a_at l (parentOf p) hl hs
  by_cases h : parentOf p = []
  · have e1 : parEnt l p = ⟨[], true, [], 0⟩ := by simp [parEnt, h]
    have e2 : parOk l p = true := by simp [parOk, h]
    rw [h] at hsp hat
    rw [e1, e2]
    refine acall_intro Tryz.func141 rfl _ Tryz.ntmps141 (Nat.le_of_ble_eq_true rfl) _ Tryz.results141 0 rfl rfl ?_
    repeat' (first | refine walk ?_ | (first | (apply to_call Tryz.func169 rfl rfl; intro hIsFn; refine o_callp hIsFn (hsp ..) ?_) | (apply to_call Tryz.func67 rfl rfl; intro hIsFn; refine o_callp hIsFn (hat ..) ?_)) | ((first | (apply awp_cond; rfl)); all_goals (intro hc; have hp := hc; first | (simp at hp; done) | ((try simp at hp); first | (exfalso; omega) | skip))) | (apply awp_cond_any; rfl))
    all_goals try (exfalso; simp_all; done)
    (refine f_pure (rs := [.cell 4 72, .tmp 5]) ?_; (repeat' (first | exact rzl_nil | apply rzl_cons | exact rz_pure rfl | exact rz_ex | exact z_os | apply rz_agg | apply rz_tup | apply rz_clo | apply rz_int | apply rz_bool | apply rz_str | refine z_eq ?_ | apply rz_sl)); all_goals trace_state)
  · cases hh : hitE l (parentOf p) with
    | true =>
      obtain ⟨hk, hpe, hfi, -⟩ := hitE_at hs hh
      have e1 : parEnt l p = l[posE l (parentOf p)] := by simp [parEnt, h, hfi]
      have e2 : parOk l p = true := by simp [parOk, hh]
      rw [hh] at hat
      rw [e1, e2]
      generalize posE l (parentOf p) = k at *
      have hr := getRow (f := Ent.row) hk
      refine acall_intro Tryz.func141 rfl _ Tryz.ntmps141 (Nat.le_of_ble_eq_true rfl) _ Tryz.results141 0 rfl rfl ?_
      repeat' (first | refine walk ?_ | (first | (apply to_call Tryz.func169 rfl rfl; intro hIsFn; refine o_callp hIsFn (hsp ..) ?_) | (apply to_call Tryz.func67 rfl rfl; intro hIsFn; refine o_callp hIsFn (hat ..) ?_)) | ((first | (apply awp_cond; rfl)); all_goals (intro hc; have hp := hc; first | (simp at hp; done) | ((try simp at hp); first | (exfalso; omega) | skip))) | (apply awp_cond_any; rfl))
      all_goals try (exfalso; first | exact h (by assumption) | (simp_all; done))
      (refine f_pure (rs := [.cell 4 72, .tmp 5]) ?_; (repeat' (first | exact rzl_nil | apply rzl_cons | exact rz_pure rfl | exact rz_ex | exact z_os | apply rz_agg | apply rz_tup | apply rz_clo | apply rz_int | apply rz_bool | apply rz_str | refine z_eq ?_ | apply rz_sl)); all_goals trace_state)
    | false =>
      have e1 : parEnt l p = ⟨[], false, [], 0⟩ := by simp [parEnt, h, (hitE_none hh).1]
      have e2 : parOk l p = false := by simp [parOk, hh, h]
      rw [hh] at hat
      rw [e1, e2]
      refine acall_intro Tryz.func141 rfl _ Tryz.ntmps141 (Nat.le_of_ble_eq_true rfl) _ Tryz.results141 0 rfl rfl ?_
      repeat' (first | refine walk ?_ | (first | (apply to_call Tryz.func169 rfl rfl; intro hIsFn; refine o_callp hIsFn (hsp ..) ?_) | (apply to_call Tryz.func67 rfl rfl; intro hIsFn; refine o_callp hIsFn (hat ..) ?_)) | ((first | (apply awp_cond; rfl)); all_goals (intro hc; have hp := hc; first | (simp at hp; done) | ((try simp at hp); first | (exfalso; omega) | skip))) | (apply awp_cond_any; rfl))
      all_goals try (exfalso; first | exact h (by assumption) | (simp_all; done))
      (refine f_pure (rs := [.cell 4 72, .tmp 5]) ?_; (repeat' (first | exact rzl_nil | apply rzl_cons | exact rz_pure rfl | exact rz_ex | exact z_os | apply rz_agg | apply rz_tup | apply rz_clo | apply rz_int | apply rz_bool | apply rz_str | refine z_eq ?_ | apply rz_sl)); all_goals trace_state)
end Go.Proofs.YtiljlcgmcmjcoaaGreatDoor

/- Trees in the abstract layer, 3: checkTree, check, Check, Find. -/
set_option linter.unusedSimpArgs false
set_option linter.unnecessarySimpa false
set_option maxHeartbeats 1000000
namespace Go.Proofs.YtiljlcgmcmjcoaaGreatDoor
open Go.Ab Go.RowKit
set_option maxRecDepth 10000
attribute [local irreducible] Awp Ops OpsX Wanted Red ExOk Go.Ab.Fin ACall Rz RzL RzRows Enters ResOk RenV RenVL ArgV ArgVL

theorem leq_ent (a b : Ent) : (Op.bytesLess b.path a.path || decide (b.path = a.path)) = !entLt a b := by
  unfold entLt
  rcases bl_tri a.path b.path with ⟨h1, h2, h3⟩ | ⟨h1, h2, h3⟩ | ⟨h1, h2, h3⟩
  · have h4 : ¬ b.path = a.path := fun e => h3 e.symm
    simp [h1, h2, h4]
  · simp [h1, bl_irr]
  · simp [h1, h2]
theorem treeErr_ent {t : List Ent} (h60 : ¬ 60 < t.length) {k : Nat} (hk : k < t.length) (hs : ∀ g, g ∈ t.take k → entErr g = 0) (h0 : entErr t[k] ≠ 0) : entErr t[k] = treeErr t := by
  have h1 := firstErr_at hk hs h0
  have hz : ¬ firstErr entErr t = 0 := by rw [h1]; exact h0
  simp only [treeErr, h60, hz, if_false]
  rw [h1]
theorem a_checkTree (l : List Ent) (hl : EBig l) : AFn C.P 111 [entAV l] (.v (.int .i64 (treeErr l))) := by
  have hll := hl.len
  refine acall_intro Tryz.func111 rfl _ Tryz.ntmps111 (Nat.le_of_ble_eq_true rfl) _ Tryz.results111 0 rfl rfl ?_
  repeat' (first | refine walk ?_ | fail | ((first | (apply awp_cond; rfl)); all_goals (intro hc; have hp := hc; first | (simp at hp; done) | ((try simp at hp); first | (exfalso; omega) | skip))) | (apply awp_cond_any; rfl))
  · apply fin_int
    rfl
    have h60 : 60 < l.length := by omega
    simp [treeErr, h60]
  have h60 : ¬ 60 < l.length := by omega
  (refine Awp.red (red_pure (ts := [(0, entAV l), (15, entAV l), (16, .v (.int .i64 l.length)), (17, .v (.int .i64 ((0 : Nat) : Int)))]) ?_) ?_; ((repeat (first | exact tsok_nil | refine p_pure ?_ | refine p_eq ?_ ?_))))
  all_goals try (rw [List.length_map]; done)
  refine awp_loop (fun n σ => ∃ i : Nat, i ≤ l.length ∧ n = l.length - i ∧ (∀ g, g ∈ l.take i → entErr g = 0) ∧ σ = ⟨[(0, entAV l), (15, entAV l), (16, .v (.int .i64 l.length)), (17, .v (.int .i64 (i : Int)))], [], C.nh⟩) l.length ⟨0, Nat.zero_le _, rfl, (by simp), rfl⟩ ?_
  rintro n σ ⟨i, hi, rfl, hsofar, rfl⟩
  by_cases hlt : i < l.length
  · have hr := getRow (f := Ent.row) hlt
    have hsm := hl.each l[i] (List.getElem_mem _)
    have hce := a_checkEntry l[i] hsm
    repeat' (first | refine walk ?_ | (first | (apply to_call Tryz.func140 rfl rfl; intro hIsFn; refine o_callf hIsFn (hce ..) ?_; skip)) | ((first | (apply awp_cond; rfl)); all_goals (intro hc; have hp := hc; first | (simp at hp; done) | ((try simp at hp); first | (exfalso; omega) | skip))) | (apply awp_cond_any; rfl))
    all_goals try (exfalso; omega)
    · apply fin_int
      rfl
      exact treeErr_ent h60 hlt hsofar (by assumption)
    · refine ⟨l.length - (i + 1), _, by omega, red_pure (ts := [(0, entAV l), (15, entAV l), (16, .v (.int .i64 l.length)), (17, .v (.int .i64 ((i + 1 : Nat) : Int)))]) ?_, i + 1, by omega, rfl, mem_take_succ hlt hsofar (by assumption), rfl⟩; ((repeat (first | exact tsok_nil | refine p_pure ?_ | refine p_eq ?_ ?_)))
  obtain rfl : i = l.length := by omega
  have hz : firstErr entErr l = 0 := firstErr_zero.2 (fun s hs => hsofar s (by rw [List.take_length]; exact hs))
  clear hsofar
  repeat' (first | refine walk ?_ | fail | ((first | (apply awp_cond; rfl)); all_goals (intro hc; have hp := hc; first | (simp at hp; done) | ((try simp at hp); first | (exfalso; omega) | skip))) | (apply awp_cond_any; rfl))
  all_goals try (exfalso; omega)
  (refine Awp.red (red_pure (ts := [(0, entAV l), (6, .v (.int .i64 ((0 + 1 : Nat) : Int)))]) ?_) ?_; ((repeat (first | exact tsok_nil | refine p_pure ?_ | refine p_eq ?_ ?_))))
  refine awp_loop (fun n σ => ∃ i : Nat, i ≤ (l.drop 1).length ∧ n = (l.drop 1).length - i ∧ (∀ (k : Nat) (h : k + 1 < l.length), k < i → entLt (l[k]'(by omega)) l[k + 1] = true) ∧ σ = ⟨[(0, entAV l), (6, .v (.int .i64 ((i + 1 : Nat) : Int)))], [], C.nh⟩) (l.drop 1).length ⟨0, Nat.zero_le _, rfl, (fun k h hk => absurd hk (Nat.not_lt_zero _)), rfl⟩ ?_
  have hdl : (l.drop 1).length = l.length - 1 := by simp
  rintro n σ ⟨i, hi, rfl, hsofar, rfl⟩
  by_cases hlt : i + 1 < l.length
  · have hr := getRow (f := Ent.row) hlt
    have hr' := getRow (f := Ent.row) (l := l) (i := i) (by omega)
    have hle := leq_ent l[i] l[i + 1]
    repeat' (first | refine walk ?_ | fail | ((first | (apply awp_cond; rfl)); all_goals (intro hc; have hp := hc; first | (simp at hp; done) | ((try simp at hp); first | (exfalso; omega) | skip))) | (apply awp_cond_any; rfl))
    all_goals try (exfalso; omega)
    · have hrf : ¬ rising entLt l = true := fun h => by
        have := rising_iff.1 h i hlt
        simp_all
      apply fin_int
      rfl
      simp [treeErr, h60, hz, hrf]
    · have hok : entLt l[i] l[i + 1] = true := (by simp_all)
      refine ⟨(l.drop 1).length - (i + 1), _, by omega, red_pure (ts := [(0, entAV l), (6, .v (.int .i64 ((i + 1 + 1 : Nat) : Int)))]) ?_, i + 1, by omega, rfl, (fun k h hk => by
        by_cases e : k = i
        · subst e; exact hok
        · exact hsofar k h (by omega)), rfl⟩; ((repeat (first | exact tsok_nil | refine p_pure ?_ | refine p_eq ?_ ?_)))
  have hrise : rising entLt l = true := rising_iff.2 fun k h => hsofar k h (by simp at hi; omega)
  clear hsofar
  repeat' (first | refine walk ?_ | fail | ((first | (apply awp_cond; rfl)); all_goals (intro hc; have hp := hc; first | (simp at hp; done) | ((try simp at hp); first | (exfalso; omega) | skip))) | (apply awp_cond_any; rfl))
  all_goals try (exfalso; omega)
  (refine Awp.red (red_pure (ts := [(0, entAV l), (7, .v (.int .i64 (if (l.take 0).any (fun x => decide (¬ parErr l x = 0)) = true then 4 else 0))), (45, entAV l), (46, .v (.int .i64 l.length)), (47, .v (.int .i64 ((0 : Nat) : Int)))]) ?_) ?_; ((repeat (first | exact tsok_nil | refine p_pure ?_ | refine p_eq ?_ ?_))))
  all_goals try (rw [List.length_map]; done)
  refine awp_loop (fun n σ => ∃ i : Nat, i ≤ l.length ∧ n = l.length - i ∧ (∀ g, g ∈ l.take i → ¬ parErr l g = 5) ∧ σ = ⟨[(0, entAV l), (7, .v (.int .i64 (if (l.take i).any (fun x => decide (¬ parErr l x = 0)) = true then 4 else 0))), (45, entAV l), (46, .v (.int .i64 l.length)), (47, .v (.int .i64 (i : Int)))], [], C.nh⟩) l.length ⟨0, Nat.zero_le _, rfl, (by simp), rfl⟩ ?_
  rintro n σ ⟨i, hi, rfl, hsofar, rfl⟩
  by_cases hlt : i < l.length
  · have hr := getRow (f := Ent.row) hlt
    have hsm := hl.each l[i] (List.getElem_mem _)
    have hpa := a_parentT l l[i].path hl.len hrise (by have := hsm.1; omega)
    have hpe : parErr l l[i] = _ := parEnt_err l l[i].path
    have htk := List.take_succ_eq_append_getElem hlt
    generalize parOk l l[i].path = ok at hpa hpe
    generalize parEnt l l[i].path = pe at hpa hpe
    repeat' (first | refine walk ?_ | (first | (apply to_call Tryz.func141 rfl rfl; intro hIsFn; refine o_callp hIsFn (hpa ..) ?_)) | ((first | (apply awp_cond; rfl)); all_goals (intro hc; have hp := hc; first | (simp at hp; done) | ((try simp at hp); first | (exfalso; omega) | skip))) | (apply awp_cond_any; rfl))
    all_goals try (exfalso; omega)
    · have h5 : parErr l l[i] = 5 := (by rw [hpe]; simp_all)
      have hany : l.any (fun x => decide (parErr l x = 5)) = true := List.any_eq_true.2 ⟨l[i], List.getElem_mem _, by simp [h5]⟩
      apply fin_int
      rfl
      simp [treeErr, h60, hz, hrise, hany]
    · have h4 : parErr l l[i] = 4 := (by rw [hpe]; simp_all)
      refine ⟨l.length - (i + 1), _, by omega, red_pure (ts := [(0, entAV l), (7, .v (.int .i64 (if (l.take (i + 1)).any (fun x => decide (¬ parErr l x = 0)) = true then 4 else 0))), (45, entAV l), (46, .v (.int .i64 l.length)), (47, .v (.int .i64 ((i + 1 : Nat) : Int)))]) ?_, i + 1, by omega, rfl, mem_take_succ hlt hsofar (by rw [h4]; decide), rfl⟩; ((repeat (first | exact tsok_nil | refine p_pure ?_ | refine p_eq ?_ ?_)); all_goals (rw [htk, List.any_append]; simp [h4]))
    · have h4 : parErr l l[i] = 0 := (by rw [hpe]; simp_all)
      refine ⟨l.length - (i + 1), _, by omega, red_pure (ts := [(0, entAV l), (7, .v (.int .i64 (if (l.take (i + 1)).any (fun x => decide (¬ parErr l x = 0)) = true then 4 else 0))), (45, entAV l), (46, .v (.int .i64 l.length)), (47, .v (.int .i64 ((i + 1 : Nat) : Int)))]) ?_, i + 1, by omega, rfl, mem_take_succ hlt hsofar (by rw [h4]; decide), rfl⟩; ((repeat (first | exact tsok_nil | refine p_pure ?_ | refine p_eq ?_ ?_)); all_goals (rw [htk, List.any_append]; simp [h4]))
  obtain rfl : i = l.length := by omega
  rw [List.take_length] at *
  have hno : ¬ l.any (fun x => decide (parErr l x = 5)) = true := fun h => by
    obtain ⟨x, hx, hk⟩ := List.any_eq_true.1 h
    exact hsofar x hx (by simpa using hk)
  have hE : treeErr l = if l.any (fun x => decide (¬ parErr l x = 0)) = true then 4 else 0 := by
    unfold treeErr
    rw [if_neg h60, if_pos hz, if_pos hrise, if_neg hno]
  repeat' (first | refine walk ?_ | fail | ((first | (apply awp_cond; rfl)); all_goals (intro hc; have hp := hc; first | (simp at hp; done) | ((try simp at hp); first | (exfalso; omega) | skip))) | (apply awp_cond_any; rfl))
  all_goals try (exfalso; omega)
  apply fin_int
  rfl
  exact hE.symm
end Go.Proofs.YtiljlcgmcmjcoaaGreatDoor
