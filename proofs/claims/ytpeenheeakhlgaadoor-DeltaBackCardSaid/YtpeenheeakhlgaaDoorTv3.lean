/- The law TreeStale: plain, and walked. -/
import Derived.Test.YtpeenheeakhlgaaDoorTv1
import Derived.Test.YtpeenheeakhlgaaDoorCh
set_option linter.unusedSimpArgs false
set_option linter.unnecessarySimpa false
set_option linter.unusedVariables false
set_option maxHeartbeats 1000000
namespace Go.Proofs.YtpeenheeakhlgaaDoor
open Go.Ab Go.RowKit
set_option maxRecDepth 10000

def withB (c : Chg) (b : Int) : Chg := ⟨c.kind, c.path, c.to, c.text, b⟩
def newestOf (t : List Ent) (p : Str) : Int := t.foldl (fun n x => if inB x.path p = true then max n x.ver else n) 0
theorem newest_succ {t : List Ent} {p : Str} {i : Nat} (h : i < t.length) : newestOf (t.take (i + 1)) p = if inB t[i].path p = true then max (newestOf (t.take i) p) t[i].ver else newestOf (t.take i) p := by
  unfold newestOf
  rw [List.take_succ_eq_append_getElem h, List.foldl_append]; rfl
theorem newest_le (p : Str) (b : Int) : ∀ (t : List Ent) (n : Int), t.foldl (fun n x => if inB x.path p = true then max n x.ver else n) n ≤ b ↔ n ≤ b ∧ ∀ x, x ∈ t → inB x.path p = true → x.ver ≤ b
  | [], n => by simp
  | x :: t, n => by
    rw [List.foldl_cons, newest_le p b t]
    constructor
    · intro ⟨h1, h2⟩
      refine ⟨?_, fun y hy hi => ?_⟩
      · split at h1 <;> omega
      · rcases List.mem_cons.1 hy with rfl | hy
        · rw [if_pos hi] at h1; omega
        · exact h2 y hy hi
    · intro ⟨h1, h2⟩
      refine ⟨?_, fun y hy hi => h2 y (by simp [hy]) hi⟩
      split
      · rename_i hi
        have := h2 x (by simp) hi
        omega
      · exact h1
theorem chg_withB {c : Chg} {b : Int} (hb : -1 ≤ b ∧ b ≤ 1000000) : chgErr (withB c b) = chgErr (withB c (-1)) := by
  unfold chgErr chgRest withB
  have h1 : ¬ (b < -1 ∨ 1000000 < b) := by omega
  have h2 : ¬ ((-1 : Int) < -1 ∨ 1000000 < (-1 : Int)) := by omega
  simp only [h1, h2]
theorem pre_withB (t : List Ent) (c : Chg) (b : Int) : preErr t (withB c b) = preErr t (withB c (-1)) := rfl
theorem done_withB (t : List Ent) (c : Chg) (b v : Int) : doneE t (withB c b) v = doneE t (withB c (-1)) v := rfl
theorem stale_law {t : List Ent} {c : Chg} {v b : Int} (hb : 0 ≤ b ∧ b ≤ 1000000) :
    (¬ applyE t (withB c (-1)) v = 0 → ¬ applyE t (withB c b) v = 0) ∧ (applyE t (withB c (-1)) v = 0 → (if newestOf t c.path ≤ b then applyE t (withB c b) v = 0 else applyE t (withB c b) v = 8)) := by
  have hc := @chg_withB c b (by omega)
  have hp := pre_withB t c b
  have hd := done_withB t c b v
  have h1 := raw_pre t (withB c (-1)) v
  have h2 := raw_pre t (withB c b) v
  have hs1 : staleErr t (withB c (-1)) = 0 := by
    unfold staleErr
    rw [if_neg]; simp [withB]
  have hs2 : staleErr t (withB c b) = if newestOf t c.path ≤ b then 0 else 8 := by
    unfold staleErr
    have hne : ¬ (withB c b).base = -1 := by show ¬ b = -1; omega
    by_cases hn : newestOf t c.path ≤ b
    · rw [if_pos hn, if_neg]
      rintro ⟨-, h3⟩
      obtain ⟨x, hx, hx2⟩ := List.any_eq_true.1 h3
      simp only [newer, withB, Bool.and_eq_true, decide_eq_true_eq] at hx2
      have h8 := ((newest_le c.path b t 0).1 hn).2 x hx hx2.2
      have h9 : b < x.ver := of_decide_eq_true hx2.1
      omega
    · rw [if_neg hn, if_pos]
      refine ⟨hne, ?_⟩
      have h4 : ¬ ((0 : Int) ≤ b ∧ ∀ x, x ∈ t → inB x.path c.path = true → x.ver ≤ b) := fun h5 => hn ((newest_le c.path b t 0).2 h5)
      have h5 : ∃ x, x ∈ t ∧ inB x.path c.path = true ∧ b < x.ver := by
        apply Classical.byContradiction
        intro h6
        refine h4 ⟨by omega, fun x hx hi => ?_⟩
        apply Classical.byContradiction
        intro h7
        exact h6 ⟨x, hx, hi, by omega⟩
      obtain ⟨x, hx, hi, hv⟩ := h5
      exact List.any_eq_true.2 ⟨x, hx, by simp only [newer, withB, hi, Bool.and_true]; exact decide_eq_true hv⟩
  rw [hc, hp, hd, hs2] at h2
  rw [hs1] at h1
  unfold applyE
  rw [h1, h2]
  by_cases a1 : treeErr t = 0
  · by_cases a2 : isVer v = false
    · simp [a1, a2]
    · by_cases a3 : chgErr (withB c (-1)) = 0
      · by_cases a4 : preErr t (withB c (-1)) = 0
        · by_cases a5 : newestOf t c.path ≤ b
          · simp [a1, a2, a3, a4, a5]
          · simp [a1, a2, a3, a4, a5]
        · simp [a1, a2, a3, a4]
      · simp [a1, a2, a3]
  · simp [a1]
attribute [local irreducible] Awp Ops OpsX Wanted Red ExOk Go.Ab.Fin ACall Rz RzL RzRows Enters ResOk RenV RenVL ArgV ArgVL
end Go.Proofs.YtpeenheeakhlgaaDoor
