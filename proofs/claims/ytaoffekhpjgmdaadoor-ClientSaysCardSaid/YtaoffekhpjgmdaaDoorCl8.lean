/- Clients: the law ClientSends. -/
import Derived.Test.YtaoffekhpjgmdaaDoorCl6
import Derived.Test.YtaoffekhpjgmdaaDoorCl4
set_option linter.unusedSimpArgs false
set_option linter.unnecessarySimpa false
set_option linter.unusedVariables false
set_option maxHeartbeats 1000000
namespace Go.Proofs.YtaoffekhpjgmdaaDoor
open Go.Ab Go.RowKit
set_option maxRecDepth 10000
attribute [local irreducible] Awp Ops OpsX Wanted Red ExOk Go.Ab.Fin ACall Rz RzL RzRows Enters ResOk RenV RenVL ArgV ArgVL

theorem sendL_big {c : Cli} (hR : CRight c) : CBig (sendL c) := by
  have ha := right_iff.1 hR.base
  have hb := right_iff.1 hR.mine
  refine ⟨fun y hy => ?_, by unfold sendL; simp; omega⟩
  unfold sendL at hy
  obtain ⟨x, hx, rfl⟩ := List.mem_map.1 hy
  have hc := List.mem_of_mem_take hx
  show x.path.length ≤ _ ∧ x.to.length ≤ _ ∧ x.text.length ≤ _
  unfold rawD at hc
  rcases List.mem_append.1 hc with h | h
  · obtain ⟨p, hp, rfl⟩ := List.mem_map.1 h
    rcases gones_sub c.mine c.base [] p hp with h0 | ⟨z, hz, hzp, _⟩
    · cases h0
    · have := pathErr_small (entErr_zero (ha.ent z hz)).1
      rw [hzp] at this
      exact ⟨by show p.length ≤ _; omega, by show ([] : Str).length ≤ _; simp, by show ([] : Str).length ≤ _; simp⟩
  · obtain ⟨x, hxf, rfl⟩ := List.mem_map.1 h
    have h1 := entErr_zero (hb.ent x (List.mem_filter.1 hxf).1)
    have := pathErr_small h1.1
    have := h1.2.2.1
    exact ⟨by show x.path.length ≤ _; omega, by show ([] : Str).length ≤ _; simp, by show x.text.length ≤ _; omega⟩
theorem sendC_big {c : Cli} (hb : CliBig c) (hR : CRight c) : CliBig (sendC c) := by
  refine ⟨hb.who, hb.folder, hb.base, hb.mine, ?_, sendL_big hR⟩
  have hk := hR.keys
  obtain ⟨k, hkk⟩ : ∃ k : Nat, c.keys + 1 = (k : Int) := ⟨(c.keys + 1).toNat, by omega⟩
  show (c.who ++ [45] ++ Lib.itoa (c.keys + 1)).length ≤ _
  rw [hkk, itoa_nat]
  have h1 := dig_len k
  have h2 := hR.lwho
  simp only [List.length_append, List.length_singleton]
  omega
theorem sendW_big {c : Cli} (hb : CliBig c) (hR : CRight c) : CliBig (sendW c).1 ∧ (sendW c).2.1.chs.length ≤ 140737488355328 := by
  unfold sendW
  split
  · split
    · exact ⟨hb, by show ([] : List Chg).length ≤ _; simp⟩
    · split
      · exact ⟨noCli_big, by show ([] : List Chg).length ≤ _; simp⟩
      · exact ⟨sendC_big hb hR, (sendL_big hR).len⟩
  · exact ⟨hb, hb.asked.len⟩
theorem sendW_is {c : Cli} : (sendW c).1 = if (sendW c).2.2.2 = 0 then (sendW c).1 else noCli := by
  unfold sendW
  split
  · split
    · rfl
    · split <;> rfl
  · rfl
end Go.Proofs.YtaoffekhpjgmdaaDoor
