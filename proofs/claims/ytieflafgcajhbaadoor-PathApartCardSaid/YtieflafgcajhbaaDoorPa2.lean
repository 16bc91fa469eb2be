/- Paths, 2: the iterator over a path's names, in the machine's own words. -/
import Derived.Test.YtieflafgcajhbaaDoorPa1
import Derived.RangeFuncNested
import Derived.RangeFuncBound
import Derived.RangeFuncCalls
import Derived.RangeFuncLeaves
import Derived.Shelf.Abstract
import Derived.Shelf.RegionOpen
import Derived.WalkKit
import Derived.OwnWalkIn
import Derived.TacticsInMore
import Derived.LoopNIn
import Derived.LoopIn
set_option linter.unusedSimpArgs false
set_option linter.unnecessarySimpa false
namespace Go.Proofs.YtieflafgcajhbaaDoor
open Go.Ab Go.RowKit Go.Shelf
set_option maxRecDepth 10000
attribute [local go_sem] Oper.semAt_some

abbrev strV (s : Str) : Value := .string ⟨s.toArray⟩
abbrev ptrV (b : Nat) : Value := .pointer (some ⟨b, 0, none⟩)

theorem splitSeq_any (p : Str) (w : World) : Calls Tryd.prog 52 #[strV p, strV slash, .int .i64 0] w fun e w' =>
    e = .returned (.func (.func 62) #[] #[ptrV (w.heap.size + 1), ptrV w.heap.size, ptrV (w.heap.size + 2)]) ∧ w' = ((w.alloc (.cells #[strV p] 9)).alloc (.cells #[strV slash] 9)).alloc (.cells #[.int .i64 0] 3) := by
  go_enter Tryd.func52, Tryd.ntmps52
  go_wp2
  go_ret
  refine ⟨rfl, rfl⟩

theorem SplitSeq_any (p : Str) (w : World) : Calls Tryd.prog 41 #[strV p, strV slash] w fun e w' =>
    e = .returned (.func (.func 62) #[] #[ptrV (w.heap.size + 1), ptrV w.heap.size, ptrV (w.heap.size + 2)]) ∧ w' = ((w.alloc (.cells #[strV p] 9)).alloc (.cells #[strV slash] 9)).alloc (.cells #[.int .i64 0] 3) := by
  go_enter Tryd.func41, Tryd.ntmps41
  go_wp2_with (go_at_call 52; refine (splitSeq_any _ _).mono ?_; rintro e w' ⟨rfl, rfl⟩)
  go_ret
  refine ⟨rfl, rfl⟩

theorem indexByte_any (s : Str) (c : UInt8) (w : World) : Calls Tryd.prog 61 #[strV s, .int .u8 (c.toNat : Int)] w fun e w' => e = .returned (.int .i64 (Lib.indexByte s c)) ∧ w' = w := by
  go_enter Tryd.func61, Tryd.ntmps61
  go_wp2
  rw [run_callFunc_extern Tryd.func71 (by kernel_rfl) (by kernel_rfl) (by kernel_rfl) (e := Extern.BytealgIndexByte.indexByte) (by kernel_rfl), Lib.run_indexByteString]
  simp only [Result.andThen]
  rw [Oper.upon_value]
  go_wp2
  go_ret
  refine ⟨?_, rfl⟩
  simp
theorem indexL_any (s : Str) (w : World) : Calls Tryd.prog 70 #[strV s, strV slash] w fun e w' => e = .returned (.int .i64 (Lib.indexByte s 47)) ∧ w' = w := by
  show Calls _ _ #[strV s, .string ⟨#[47]⟩] w _
  go_enter Tryd.func70, Tryd.ntmps70
  go_wp2_with (go_at_call 61; refine (indexByte_any s 47 _).mono ?_; rintro e w' ⟨rfl, rfl⟩)
  · go_ret
    refine ⟨?_, rfl⟩
    have e : ([47] : Str) = s := by first | assumption | (simp_all; done)
    subst e
    rfl
  · go_ret
    exact ⟨rfl, rfl⟩
theorem index_any (s : Str) (w : World) : Calls Tryd.prog 59 #[strV s, strV slash] w fun e w' => e = .returned (.int .i64 (Lib.indexByte s 47)) ∧ w.grownBy w' none := by
  go_enter Tryd.func59, Tryd.ntmps59
  go_wp2_with (go_at_call 70; refine (indexL_any _ _).mono ?_; rintro e w' ⟨rfl, rfl⟩)
  go_ret
  exact ⟨rfl, ⟨rfl, rfl, rfl, Nat.le_refl _, fun _ _ _ => rfl⟩⟩

/-- Where the first sign stands. -/
theorem first_slash (s : Str) : (Lib.indexByte s 47 = -1 ∧ (47 : UInt8) ∉ s) ∨ ∃ a b, s = a ++ 47 :: b ∧ (47 : UInt8) ∉ a ∧ Lib.indexByte s 47 = a.length := by
  induction s with
  | nil => exact .inl ⟨rfl, by simp⟩
  | cons c s ih =>
    by_cases hc : c = 47
    · subst hc; exact .inr ⟨[], s, rfl, by simp, by simp [Lib.indexByte]⟩
    · rcases ih with ⟨h1, h2⟩ | ⟨a, b, h1, h2, h3⟩
      · exact .inl ⟨by simp [Lib.indexByte, hc, h1], by simp only [List.mem_cons, not_or]; exact ⟨fun e => hc e.symm, h2⟩⟩
      · refine .inr ⟨c :: a, b, by simp [h1], by simp only [List.mem_cons, not_or]; exact ⟨fun e => hc e.symm, h2⟩, ?_⟩
        have : ¬ Lib.indexByte s 47 = -1 := by omega
        simp [Lib.indexByte, hc, this, h3]

theorem cell_of {W : World} {b T : Nat} {v : Value} (h : W.heap[b]? = some (.cells #[v] T (0, 0))) : W.cell? ⟨b, 0, none⟩ = some v ∧ W.frozen? ⟨b, 0, none⟩ = false := by simp [World.cell?, World.frozen?, h]
theorem kept {A B : World} {k : Nat} {o : Obj} (hg : A.grownBy B Option.none) (h : A.heap[k]? = some o) : B.heap[k]? = some o := (hg.block k (Array.getElem?_eq_some_iff.1 h).1 (by simp)).trans h
theorem _root_.Go.World.grownBy.weaken {A B : World} (h : A.grownBy B Option.none) (r : Option Nat) : A.grownBy B r := ⟨h.os, h.tape, h.output, h.size, fun k hk _ => h.block k hk (by simp)⟩
theorem wrap64_in {x : Int} (h1 : 0 ≤ x) (h2 : x ≤ 9223372036854775807) : wrap64 x = x := IntWalk.wrap64_in x ⟨by omega, by omega⟩
theorem extract_str (l : List UInt8) (a b : Nat) : ByteArray.extract ⟨l.toArray⟩ a b = ⟨((l.take b).drop a).toArray⟩ := by
  have h : (ByteArray.extract ⟨l.toArray⟩ a b).data = ((l.take b).drop a).toArray := by simp [List.drop_take]
  calc ByteArray.extract ⟨l.toArray⟩ a b = ⟨(ByteArray.extract ⟨l.toArray⟩ a b).data⟩ := rfl
    _ = _ := by rw [h]
theorem heap_set {W : World} {b T : Nat} {v : Value} (h : W.heap[b]? = some (.cells #[v] T (0, 0))) (u : Value) : (W.setCell ⟨b, 0, none⟩ u).heap[b]? = some (.cells #[u] T (0, 0)) := by
  obtain ⟨hlt, hb⟩ := Array.getElem?_eq_some_iff.1 h
  show (W.heap.modify b _)[b]? = _
  rw [Array.getElem?_eq_getElem (by rw [Array.size_modify]; exact hlt), Array.getElem_modify_self, hb]
  rfl
theorem heap_set_ne (W : World) {b k : Nat} (u : Value) (h : k ≠ b) : (W.setCell ⟨b, 0, none⟩ u).heap[k]? = W.heap[k]? := Below.heap_setCell W ⟨b, 0, none⟩ u k h
/-- How much text is left. -/
def leftAt (S : Nat) (w : World) : Nat := match w.cell? ⟨S, 0, none⟩ with | some (.string s) => s.size | _ => 0
theorem split_iter (n : Nat) (hn : 1 ≤ n) (p : Str) (hp : p.length ≤ 140737488355328) (w0 : World) (S : Nat) (h0 : w0.heap[S]? = some (.cells #[strV p] 9 (0, 0))) (h1 : w0.heap[S + 1]? = some (.cells #[strV slash] 9 (0, 0))) (h2 : w0.heap[S + 2]? = some (.cells #[.int .i64 0] 3 (0, 0))) :
    CellIter Fence.wide n Tryd.prog 62 #[ptrV (S + 1), ptrV S, ptrV (S + 2)] S (namesOf p) w0 := by
  intro l J Jx W hW hJ hJx hY hJ0
  have hS : W.heap[S]? = some (.cells #[strV p] 9 (0, 0)) := (hW S (by omega) (by omega)).trans h0
  have hS1 : W.heap[S + 1]? = some (.cells #[strV slash] 9 (0, 0)) := (hW (S + 1) (by omega) (by omega)).trans h1
  have hS2 : W.heap[S + 2]? = some (.cells #[.int .i64 0] 3 (0, 0)) := (hW (S + 2) (by omega) (by omega)).trans h2
  have c1 := (cell_of hS1).1
  have hsl : List.length slash = 1 := rfl
  refine callsIn_of_wp Tryd.func62 rfl trivial ?_ rfl
  simp only [Tryd.ntmps62, List.size_toArray, List.length_cons, List.length_nil, Nat.reduceAdd, Nat.reduceSub, Array.replicate_succ, Array.replicate_zero, List.push_toArray, List.append_toArray, List.cons_append, List.nil_append]
  gi_wp2
  gi_loopw [7] (fun _ wr => ∃ (pre : List Str) (rest : Str), namesOf p = pre ++ namesOf rest ∧ rest.length ≤ p.length ∧ wr.heap[S]? = some (.cells #[strV rest] 9 (0, 0)) ∧ wr.heap[S + 1]? = some (.cells #[strV slash] 9 (0, 0)) ∧ wr.heap[S + 2]? = some (.cells #[.int .i64 0] 3 (0, 0)) ∧ J pre wr) (fun _ wr => leftAt S wr)
  case atStart => exact ⟨[], p, rfl, Nat.le_refl _, hS, hS1, hS2, hJ0⟩
  case round =>
    obtain ⟨pre, rest, hx, hlen, hb, hb1, hb2, hJs⟩ := hrel
    have c0 := (cell_of hb).1
    have c1 := (cell_of hb1).1
    have c2 := (cell_of hb2).1
    rcases first_slash rest with ⟨hm, hfree⟩ | ⟨a, b, rfl, hfa, hi⟩
    · have hpre : pre ++ [rest] <+: namesOf p := by rw [hx, namesOf_one hfree]; exact List.prefix_refl _
      gi_wp2_with (refine ⟨trivial, ?_⟩; gi_at_call 59; refine (callsIn_wide.2 (index_any _ _)).mono ?_; rintro e w1 ⟨rfl, hg⟩; have hd0 := kept hg hb; have hd1 := kept hg hb1; have hd2 := kept hg hb2; have d0 := (cell_of hd0).1; have d1 := (cell_of hd1).1; have d2 := (cell_of hd2).1; obtain ⟨fn, tmps, assign, body, hy, hR⟩ := hY pre rest w1 (hJ _ _ _ hJs (hg.weaken _)) hpre)
      refine hR.mono ?_
      rintro e W' (⟨rfl, hJ', hk⟩ | ⟨rfl, hJx'⟩)
      · gi_wp2
        go_end0
        exact ⟨⟨_, rfl⟩, .inl (by rw [hx, namesOf_one hfree]; exact hJ')⟩
      · gi_wp2
        go_end0
        exact ⟨⟨_, rfl⟩, .inr ⟨_, hpre, hJx'⟩⟩
    · have hpre : pre ++ [a] <+: namesOf p := by rw [hx, namesOf_cons b hfa]; exact ⟨namesOf b, by simp⟩
      have hw1 : wrap64 (a.length : Int) = a.length := wrap64_in (by omega) (by simp at hlen; omega)
      have hw2 : wrap64 ((a.length : Int) + 1) = a.length + 1 := wrap64_in (by omega) (by simp at hlen; omega)
      have hs1 := extract_str (a ++ 47 :: b) 0 a.length
      have hs3 : ({ data := List.toArray (a ++ 47 :: b) } : ByteArray).extract (a.length + 1) (a.length + (b.length + 1)) = ⟨b.toArray⟩ := by
        rw [extract_str, List.take_of_length_le (by simp), List.drop_append, List.drop_of_length_le (by omega), List.nil_append, show a.length + 1 - a.length = 1 from by omega]; rfl
      have hs2 := extract_str (a ++ 47 :: b) (a.length + 1) (a ++ 47 :: b).length
      gi_wp2_with (refine ⟨trivial, ?_⟩; gi_at_call 59; refine (callsIn_wide.2 (index_any _ _)).mono ?_; rintro e w1 ⟨rfl, hg⟩; have hd0 := kept hg hb; have hd1 := kept hg hb1; have hd2 := kept hg hb2; have d0 := (cell_of hd0).1; have d1 := (cell_of hd1).1; have d2 := (cell_of hd2).1; obtain ⟨fn, tmps, assign, body, hy, hR⟩ := hY pre a w1 (hJ _ _ _ hJs (hg.weaken _)) hpre)
      refine hR.mono ?_
      rintro e W' (⟨rfl, hJ', hk⟩ | ⟨rfl, hJx'⟩)
      · have he0 := (hk S (by omega) (by omega)).trans hd0
        have he1 := (hk (S + 1) (by omega) (by omega)).trans hd1
        have he2 := (hk (S + 2) (by omega) (by omega)).trans hd2
        have e0 := (cell_of he0).1
        have e1 := (cell_of he1).1
        have e2 := (cell_of he2).1
        have f0 := (cell_of he0).2
        gi_wp2
        go_roundw
        case rel => exact ⟨pre ++ [a], b, by rw [hx, namesOf_cons b hfa]; simp, by simp at hlen; omega, heap_set he0 _, (heap_set_ne W' _ (by omega)).trans he1, (heap_set_ne W' _ (by omega)).trans he2, hJ _ _ _ hJ' (grownBy_setCell' W' S _)⟩
        case measure =>
          simp [leftAt, (cell_of (heap_set he0 (strV b))).1, c0, ByteArray.size]
          omega
      · gi_wp2
        refine bodyPost_ret (results_none rfl _ _ _) rfl ?_
        exact ⟨⟨_, rfl⟩, .inr ⟨_, hpre, hJx'⟩⟩
end Go.Proofs.YtieflafgcajhbaaDoor
