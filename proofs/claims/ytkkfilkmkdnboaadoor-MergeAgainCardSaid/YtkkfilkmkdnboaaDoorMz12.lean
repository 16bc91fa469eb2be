import Derived.Test.YtkkfilkmkdnboaaDoorMz10
import Derived.Test.YtkkfilkmkdnboaaDoorMz5
import Derived.Test.YtkkfilkmkdnboaaDoorMz11
/- Paths in the abstract layer, 1: strings.Index and strings.Count at one sign; great. -/
set_option linter.unusedSimpArgs false
set_option linter.unnecessarySimpa false
set_option maxHeartbeats 1000000
namespace Go.Proofs.YtkkfilkmkdnboaaDoor
open Go.Ab Go.RowKit
set_option maxRecDepth 10000
attribute [local irreducible] Awp Ops OpsX Wanted Red ExOk Go.Ab.Fin ACall Rz RzL RzRows Enters ResOk RenV RenVL ArgV ArgVL

def slash : Str := [47]
theorem a_indexByte (s : Str) (c : UInt8) : AFn C.P 154 [.v (str s), .v (.int .u8 (c.toNat : Int))] (.v (.int .i64 (Lib.indexByte s c))) := by
  refine acall_intro Tryd.func154 rfl _ Tryd.ntmps154 (Nat.le_of_ble_eq_true rfl) _ Tryd.results154 0 rfl rfl ?_
  repeat' (first | refine walk ?_ | (first | (apply opsx_val; apply ex_ext2; exact Tryd.func168; (case hname => rfl); (case hb => rfl); (case hnx => rfl); (case hex => rfl); (case hx => rfl); (case hy => rfl); (case hrun => exact fun w => Lib.run_indexByteString _ _ w); (case hr => rfl); (case hN => exact nle rfl))) | ((first | (apply awp_cond; rfl)); all_goals (intro hc; have hp := hc; first | (simp at hp; done) | ((try simp at hp); first | (exfalso; omega) | skip))) | (apply awp_cond_any; rfl))
  apply fin_int
  rfl
  simp
theorem a_indexL (s : Str) : AFn C.P 167 [.v (str s), .v (str slash)] (.v (.int .i64 (Lib.indexByte s 47))) := by
  refine acall_intro Tryd.func167 rfl _ Tryd.ntmps167 (Nat.le_of_ble_eq_true rfl) _ Tryd.results167 0 rfl rfl ?_
  repeat' (first | refine walk ?_ | (first | (apply to_call Tryd.func154 rfl rfl; intro hIsFn; refine o_callf hIsFn (a_indexByte s 47 ..) ?_; skip)) | ((first | (apply ops_split_t; rfl; rfl; exact nle rfl) | (apply ops_split_f; rfl; rfl; exact nle rfl) | (apply awp_cond; rfl)); all_goals (intro hc; have hp := hc; first | (simp at hp; done) | ((try simp at hp); first | (exfalso; omega) | skip))) | (apply awp_cond_any; rfl))
  all_goals try (exfalso; simp_all [slash]; done)
  all_goals (apply fin_int; rfl; first | rfl | (have e : slash = s := (by assumption); subst e; rfl))
theorem a_index (s : Str) : AFn C.P 153 [.v (str s), .v (str slash)] (.v (.int .i64 (Lib.indexByte s 47))) := by
  refine acall_intro Tryd.func153 rfl _ Tryd.ntmps153 (Nat.le_of_ble_eq_true rfl) _ Tryd.results153 0 rfl rfl ?_
  repeat' (first | refine walk ?_ | (first | (apply to_call Tryd.func167 rfl rfl; intro hIsFn; refine o_callf hIsFn (a_indexL s ..) ?_; skip)) | ((first | (apply awp_cond; rfl)); all_goals (intro hc; have hp := hc; first | (simp at hp; done) | ((try simp at hp); first | (exfalso; omega) | skip))) | (apply awp_cond_any; rfl))
  apply fin_int
  rfl
  rfl
theorem a_count (s : Str) : AFn C.P 136 [.v (str s), .v (str slash)] (.v (.int .i64 (s.count 47 : Nat))) := by
  refine acall_intro Tryd.func136 rfl _ Tryd.ntmps136 (Nat.le_of_ble_eq_true rfl) _ Tryd.results136 0 rfl rfl ?_
  repeat' (first | refine walk ?_ | (first | (apply opsx_val; apply ex_ext2; exact Tryd.func156; (case hname => rfl); (case hb => rfl); (case hnx => rfl); (case hex => rfl); (case hx => rfl); (case hy => rfl); (case hrun => exact fun w => Lib.run_countString _ _ w); (case hr => rfl); (case hN => exact nle rfl))) | ((first | (apply awp_cond; rfl)); all_goals (intro hc; have hp := hc; first | (simp at hp; done) | ((try simp at hp); first | (exfalso; omega) | skip))) | (apply awp_cond_any; rfl))
  all_goals try (exfalso; simp_all [slash]; done)
  all_goals (apply fin_int; rfl; simp [Lib.countByte])
theorem a_great (s : Str) : AFn C.P 110 [.v (str s)] (.v (.bool (tooGreat s))) := by
  have htg := tooGreat_count s
  refine acall_intro Tryd.func110 rfl _ Tryd.ntmps110 (Nat.le_of_ble_eq_true rfl) _ Tryd.results110 0 rfl rfl ?_
  repeat' (first | refine walk ?_ | (first | (apply to_call Tryd.func136 rfl rfl; intro hIsFn; refine o_callf hIsFn (a_count s ..) ?_; skip)) | ((first | (apply ops_split_t; rfl; rfl; exact nle rfl) | (apply ops_split_f; rfl; rfl; exact nle rfl) | (apply awp_cond; rfl)); all_goals (intro hc; have hp := hc; first | (simp at hp; done) | ((try simp at hp); first | (exfalso; omega) | skip))) | (apply awp_cond_any; rfl))
  all_goals (apply fin_bool; rfl; rw [htg])
  all_goals first
    | (have h6 : ¬ 6 ≤ s.count 47 := (by omega)
       simp [h6]; omega)
    | (have h6 : 6 ≤ s.count 47 := (by omega)
       simp [h6]; done)
end Go.Proofs.YtkkfilkmkdnboaaDoor
