/- Clients: the laws ClientNews, ClientChecks, ClientEdits. -/
import Derived.Test.YtaoffekhpjgmdaaDoorCl3
import Derived.Test.YtaoffekhpjgmdaaDoorCl5
import Derived.Test.YtaoffekhpjgmdaaDoorClQ
import Derived.Test.YtaoffekhpjgmdaaDoorAbTyW
set_option linter.unusedSimpArgs false
set_option linter.unnecessarySimpa false
set_option linter.unusedVariables false
set_option maxHeartbeats 1000000
namespace Go.Proofs.YtaoffekhpjgmdaaDoor
open Go.Ab Go.RowKit
set_option maxRecDepth 10000
attribute [local irreducible] Awp Ops OpsX Wanted Red ExOk Go.Ab.Fin ACall Rz RzL RzRows Enters ResOk RenV RenVL ArgV ArgVL

theorem noE_big : EBig [] := ⟨fun _ h => (by cases h), by simp⟩
theorem noH_big : CBig [] := ⟨fun _ h => (by cases h), by simp⟩
theorem begC_big : CliBig begC := newC_big (by decide) (by decide)
theorem begD_big : CliBig begD := ⟨by decide, by decide, noE_big, ⟨fun x h => by rw [List.mem_singleton.1 h]; exact ⟨by decide, by decide⟩, by decide⟩, by decide, noH_big⟩
theorem a_cbegun : AFn C.P 5 [] (.v (.bool true)) := by
  have h1 := a_newC [97] [102] (by decide) (by decide)
  rw [show newC [97] [102] = begC from rfl, begC_ok] at h1
  have h2 := a_edit begC begX begC_big ⟨by decide, by decide, by decide⟩
  rw [begE] at h2
  have h3 := a_send begD begD_big
  rw [begS_is] at h3
  refine acall_intro Tryd.func5 rfl _ Tryd.ntmps5 (Nat.le_of_ble_eq_true rfl) _ Tryd.results5 0 rfl rfl ?_
  repeat' (first | refine walk ?_ | (first | (apply to_call Tryd.func13 rfl rfl; intro hIsFn; refine o_callp hIsFn (h1 ..) ?_) | (apply to_call Tryd.func14 rfl rfl; intro hIsFn; refine o_callp hIsFn (h2 ..) ?_) | (apply to_call Tryd.func6 rfl rfl; intro hIsFn; refine o_callp hIsFn (h3 ..) ?_)) | ((first | (apply ops_split_t; rfl; rfl; exact nle rfl) | (apply ops_split_f; rfl; rfl; exact nle rfl) | (apply awp_cond; rfl)); all_goals (intro hc; have hp := hc; first | (simp at hp; done) | ((try simp at hp); first | (exfalso; omega) | skip))) | (apply awp_cond_any; rfl))
  all_goals try (exfalso; simp_all; done)
  all_goals (apply fin_bool; rfl; rfl)
theorem noCli_big : CliBig noCli := ⟨by decide, by decide, noE_big, noE_big, by decide, noH_big⟩
theorem ite_same {P : Prop} [Decidable P] {α : Type} (x : α) : (if P then x else x) = x := by split <;> rfl
end Go.Proofs.YtaoffekhpjgmdaaDoor
