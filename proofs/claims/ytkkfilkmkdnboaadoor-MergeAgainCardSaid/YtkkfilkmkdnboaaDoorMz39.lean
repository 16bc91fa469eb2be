import Derived.Test.YtkkfilkmkdnboaaDoorMz37
import Derived.Test.YtkkfilkmkdnboaaDoorMz10
import Derived.Test.YtkkfilkmkdnboaaDoorMz5
import Derived.Test.YtkkfilkmkdnboaaDoorMz38
/- strconv.Itoa, in the abstract layer: the number's decimal numeral. -/
set_option linter.unusedSimpArgs false
set_option linter.unusedVariables false
namespace Go.Proofs.YtkkfilkmkdnboaaDoor
open Go.Ab Go.RowKit
theorem tables_pow : tables 3 = some (Lib.pow10Tab.map fun z => Value.int .u64 z).toArray := by simp [tables]
theorem pow_named : Tryd.prog.globalNamed "internal/strconv.uint64pow10" = some 3 := by kernel_rfl
theorem a_itoa (n : Int) (h0 : -9223372036854775808 ≤ n) (h1 : n ≤ 9223372036854775807) : AFn C.P 142 [.v (.int .i64 n)] (.v (str (Lib.itoa n))) := by
  refine afn_world (by simp [AV.pure, AV.pure.pureL]) rfl fun F w vs hF hT hm => ?_
  obtain ⟨v, rfl⟩ : ∃ v, vs = [v] := by
    match vs, hm.1 with
    | [v], _ => exact ⟨v, rfl⟩
  have hv := (hm.2 0 v (.v (.int .i64 n)) rfl rfl).v_inv.1
  subst hv
  refine (Tryd.strconv_Itoa n h0 h1 w (tabIs_of_tables pow_named tables_pow hF hT)).mono fun e w' ⟨he, k, os, hw⟩ => ⟨he, ?_⟩
  subst hw
  exact ⟨rfl, rfl, rfl, (by show w.heap.size ≤ (w.heap ++ os).size; simp), fun j hj => (by show (w.heap ++ os)[j]? = w.heap[j]?; exact Array.getElem?_append_left hj)⟩
/-- The laid table, out of the row's own condition. -/
theorem tabs_of_laid {laid : List (String × DataW Unit)} {W : World} (h : laidMet Tryd.prog laid W) (hm : ("internal/strconv.uint64pow10", Lib.tabData .u64 Lib.pow10Tab) ∈ laid) : ∀ b cs, tables b = some cs → ∃ e fr, W.heap[b]? = some (.cells cs e fr) := by
  intro b cs hb
  unfold tables at hb
  split at hb
  · rename_i he
    subst he
    injection hb with hb
    subst hb
    exact tab_of_laid pow_named (t := 209) (e := 155) (n := 20) (by kernel_rfl) (by kernel_rfl) (by kernel_rfl) (by kernel_rfl) (by kernel_rfl) h hm
  · cases hb
end Go.Proofs.YtkkfilkmkdnboaaDoor
