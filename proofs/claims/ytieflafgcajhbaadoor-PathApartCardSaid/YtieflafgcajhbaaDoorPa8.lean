/- Paths in the abstract layer, 8: the reference's NamesOf, TooGreat, CheckPath, CheckPaths. -/
import Derived.Test.YtieflafgcajhbaaDoorPa7
set_option linter.unusedSimpArgs false
set_option linter.unnecessarySimpa false
set_option maxHeartbeats 1000000
namespace Go.Proofs.YtieflafgcajhbaaDoor
open Go.Ab Go.RowKit
set_option maxRecDepth 10000
attribute [local irreducible] Awp Ops OpsX Wanted Red ExOk Go.Ab.Fin ACall Rz RzL RzRows Enters ResOk RenV RenVL ArgV ArgVL

def fromN (p : Str) (i : Nat) : Nat := i - (lastOf (p.take i)).length
def nsL (p : Str) (i : Nat) : List Str := (namesOf (p.take i)).dropLast
@[simp] theorem nsL_zero (p : Str) : nsL p 0 = [] := rfl
@[simp] theorem fromN_zero (p : Str) : fromN p 0 = 0 := rfl
@[simp] theorem cellsOf_str (s : Str) : cellsOf (AV.v (str s)) = [AV.v (str s)] := rfl
theorem last_eq {s : Str} {X : List Str} {y : Str} (h : namesOf s = X ++ [y]) : (namesOf s).dropLast = X ∧ lastOf s = y := by
  have h1 := (split_ref s).1
  rw [h, List.dropLast_concat] at h1
  refine ⟨by rw [h, List.dropLast_concat], ?_⟩
  have := List.append_cancel_left h1
  simpa using this.symm
theorem step_slash {p : Str} {i : Nat} (h : i < p.length) (hc : p[i] = 47) : nsL p (i + 1) = nsL p i ++ [lastOf (p.take i)] ∧ fromN p (i + 1) = i + 1 := by
  have e : p.take (i + 1) = p.take i ++ [47] := by rw [List.take_succ_eq_append_getElem h, hc]
  obtain ⟨h1, h2⟩ := last_eq (namesOf_slash (p.take i))
  refine ⟨?_, ?_⟩
  · show (namesOf (p.take (i + 1))).dropLast = _
    rw [e, h1]; exact (split_ref (p.take i)).1
  · show i + 1 - (lastOf (p.take (i + 1))).length = _
    rw [e, h2]; rfl
theorem step_other {p : Str} {i : Nat} (h : i < p.length) (hc : ¬ p[i] = 47) : nsL p (i + 1) = nsL p i ∧ fromN p (i + 1) = fromN p i := by
  have e : p.take (i + 1) = p.take i ++ [p[i]] := List.take_succ_eq_append_getElem h
  obtain ⟨h1, h2⟩ := last_eq (namesOf_snoc hc (p.take i))
  refine ⟨?_, ?_⟩
  · show (namesOf (p.take (i + 1))).dropLast = _
    rw [e, h1]; rfl
  · show i + 1 - (lastOf (p.take (i + 1))).length = _
    rw [e, h2]; unfold fromN; simp
theorem from_le {p : Str} {i : Nat} (h : i ≤ p.length) : fromN p i ≤ i ∧ (p.take i).drop (fromN p i) = lastOf (p.take i) := by
  have := (lastOf_suffix (p.take i)).2
  rw [List.length_take, Nat.min_eq_left h] at this
  exact ⟨Nat.sub_le _ _, this⟩
theorem nsL_len (p : Str) (i : Nat) : (nsL p i).length ≤ p.length := by
  unfold nsL
  rw [List.length_dropLast, namesOf_len]
  have h1 : (p.take i).count 47 ≤ (p.take i).length := List.count_le_length
  have h2 : (p.take i).length ≤ p.length := by rw [List.length_take]; omega
  omega
theorem mem_take_succ {α : Type} {l : List α} {k : Nat} (hk : k < l.length) {p : α → Prop} (h : ∀ x, x ∈ l.take k → p x) (hx : p l[k]) : ∀ x, x ∈ l.take (k + 1) → p x := by
  intro x hm
  rw [List.take_succ_eq_append_getElem hk] at hm
  rcases List.mem_append.1 hm with hm | hm
  · exact h x hm
  · simp at hm; exact hm ▸ hx
theorem namesOf_many (p : Str) : (namesOf p).length ≤ p.length + 1 := by
  rw [namesOf_len]
  have : p.count 47 ≤ p.length := List.count_le_length
  omega
end Go.Proofs.YtieflafgcajhbaaDoor
