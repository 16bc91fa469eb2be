/- Journals in the abstract layer, 11: laws. -/
import Derived.Test.YtkkfilkmkdnboaaDoorJoA
import Derived.Test.YtkkfilkmkdnboaaDoorJo5
import Derived.Test.YtkkfilkmkdnboaaDoorJo8
import Derived.Test.YtkkfilkmkdnboaaDoorJo9
import Derived.Test.YtkkfilkmkdnboaaDoorJo10
set_option linter.unusedSimpArgs false
set_option linter.unnecessarySimpa false
set_option linter.unusedVariables false
set_option maxHeartbeats 1000000
namespace Go.Proofs.YtkkfilkmkdnboaaDoor
open Go.Ab Go.RowKit
set_option maxRecDepth 10000
attribute [local irreducible] Awp Ops OpsX Wanted Red ExOk Go.Ab.Fin ACall Rz RzL RzRows Enters ResOk RenV RenVL ArgV ArgVL

def jZ : Jou := ⟨[], 1, []⟩
def cA : Chg := ⟨2, [97], [], [120], 0⟩
def jA : Jou := ⟨[], 1, [⟨1, [107], [cA]⟩]⟩
theorem a_jbegun : AFn C.P 16 [] (.v (.bool true)) := by
  have hcb : CBig [cA] := ⟨fun e h => by rw [List.mem_singleton.1 h]; exact ⟨by decide, by decide, by decide⟩, by simp⟩
  have hz : JBig jZ := ⟨⟨by simp [jZ], by simp [jZ]⟩, ⟨by simp [jZ], by simp [jZ]⟩⟩
  have h0 : commitR jZ [107] [cA] = (jA, 1, 0) := by decide +kernel
  have h1 := a_commit jZ [107] [cA] hz hcb
  have hbA := commit_big (j := jZ) (key := [107]) (l := [cA]) hz hcb (by decide)
  rw [h0] at h1 hbA
  have h2 := a_read jA 0 5 hbA
  rw [show readR jA 0 5 = (⟨false, [], [⟨1, [107], [cA]⟩], 1, false⟩, 0) from by decide +kernel] at h2
  have h1 : AFn C.P 13 [.agg [.sl false [], .v (.int .i64 1), .sl false []], .v (str [107]), .sl false [[.v (.int .i64 2), .v (str [97]), .v (str []), .v (str [120]), .v (.int .i64 0)]]] (.tup [.agg jA.row, .v (.int .i64 1), .v (.int .i64 0)]) := h1
  have h2 : AFn C.P 18 [.agg jA.row, .v (.int .i64 0), .v (.int .i64 5)] (.tup [.agg [.v (.bool false), .sl false [], .sl false [[.v (.int .i64 1), .v (str [107]), chgAV [cA]]], .v (.int .i64 1), .v (.bool false)], .v (.int .i64 0)]) := h2
  refine acall_intro Tryd.func16 rfl _ Tryd.ntmps16 (Nat.le_of_ble_eq_true rfl) _ Tryd.results16 0 rfl rfl ?_
  repeat' (first | refine walk ?_ | (first | (refine o_fzl ?_) | (apply to_call Tryd.func13 rfl rfl; intro hIsFn; refine o_callp hIsFn (h1 ..) ?_) | (apply to_call Tryd.func18 rfl rfl; intro hIsFn; refine o_callp hIsFn (h2 ..) ?_)) | ((first | (apply ops_split_t; rfl; rfl; exact nle rfl) | (apply ops_split_f; rfl; rfl; exact nle rfl) | (apply awp_cond; rfl)); all_goals (intro hc; have hp := hc; first | (simp at hp; done) | ((try simp at hp); first | (exfalso; omega) | skip))) | (apply awp_cond_any; rfl))
  all_goals try (exfalso; simp_all; done)
  all_goals (apply fin_bool; rfl; simp; done)
theorem law_jcommits (j : Jou) (key : Str) (l : List Chg) (hb : JBig j) (hcb : CBig l) (hk : key.length ≤ 1000000000) : AFn C.P 3 [.agg j.row, .v (str key), chgAV l] (.v (.bool true)) := by
  have h1 := a_commit j key l hb hcb
  have h2 := a_checkJ j hb
  have hbx := commit_big (j := j) hb hcb hk
  by_cases hz : jouE j = 0
  · have h3 := a_commitOf j key l hb hcb (jright_iff.1 hz) hk
    rw [show commitW j key l = commitR j key l from by unfold commitR; rw [if_neg (by simp [hz])]] at h3
    rw [hz] at h2
    generalize commitR j key l = R at *
    obtain ⟨x, n, e⟩ := R
    have h4 := a_sameJou x x hbx hbx
    rw [decide_eq_true rfl] at h4
    refine acall_intro Tryd.func3 rfl _ Tryd.ntmps3 (Nat.le_of_ble_eq_true rfl) _ Tryd.results3 0 rfl rfl ?_
    repeat' (first | refine walk ?_ | (first | (apply to_call Tryd.func13 rfl rfl; intro hIsFn; refine o_callp hIsFn (h1 ..) ?_) | (apply to_call Tryd.func14 rfl rfl; intro hIsFn; refine o_callf hIsFn (h2 ..) ?_; skip) | (apply to_call Tryd.func15 rfl rfl; intro hIsFn; refine o_callp hIsFn (h3 ..) ?_) | (apply to_call Tryd.func16 rfl rfl; intro hIsFn; refine o_callf hIsFn (a_jbegun ..) ?_; skip) | (apply to_call Tryd.func17 rfl rfl; intro hIsFn; refine o_callf hIsFn (h4 ..) ?_; skip)) | ((first | (apply ops_split_t; rfl; rfl; exact nle rfl) | (apply ops_split_f; rfl; rfl; exact nle rfl) | (apply awp_cond; rfl)); all_goals (intro hc; have hp := hc; first | (simp at hp; done) | ((try simp at hp); first | (exfalso; omega) | skip))) | (apply awp_cond_any; rfl))
    all_goals try (exfalso; first | omega | (simp_all; done))
    all_goals (apply fin_bool; rfl; simp_all; done)
  · have h0 : commitR j key l = (noJou, 0, jouE j) := by unfold commitR; rw [if_pos hz]
    rw [h0] at h1
    have h4 := a_sameJou noJou noJou noJou_big noJou_big
    rw [decide_eq_true rfl] at h4
    have h4 : AFn C.P 17 [.agg noJou.row, .agg [.sl false [], .v (.int .i64 0), .sl false []]] (.v (.bool true)) := h4
    generalize jouE j = E at *
    refine acall_intro Tryd.func3 rfl _ Tryd.ntmps3 (Nat.le_of_ble_eq_true rfl) _ Tryd.results3 0 rfl rfl ?_
    repeat' (first | refine walk ?_ | (first | (apply to_call Tryd.func13 rfl rfl; intro hIsFn; refine o_callp hIsFn (h1 ..) ?_) | (apply to_call Tryd.func14 rfl rfl; intro hIsFn; refine o_callf hIsFn (h2 ..) ?_; skip) | (apply to_call Tryd.func16 rfl rfl; intro hIsFn; refine o_callf hIsFn (a_jbegun ..) ?_; skip) | (apply to_call Tryd.func17 rfl rfl; intro hIsFn; refine o_callf hIsFn (h4 ..) ?_; skip)) | ((first | (apply ops_split_t; rfl; rfl; exact nle rfl) | (apply ops_split_f; rfl; rfl; exact nle rfl) | (apply awp_cond; rfl)); all_goals (intro hc; have hp := hc; first | (simp at hp; done) | ((try simp at hp); first | (exfalso; omega) | skip))) | (apply awp_cond_any; rfl))
    all_goals try (exfalso; first | omega | (simp_all; done))
    all_goals (apply fin_bool; rfl; simp_all; done)
theorem law_jreads (j : Jou) (cursor most : Int) (hb : JBig j) : AFn C.P 4 [.agg j.row, .v (.int .i64 cursor), .v (.int .i64 most)] (.v (.bool true)) := by
  have h1 := a_read j cursor most hb
  have h2 := a_checkJ j hb
  have hbx := read_big (cursor := cursor) (most := most) hb
  by_cases hz : jouE j = 0
  · have h3 := a_readOf j cursor most hb (jright_iff.1 hz)
    rw [show readW j cursor most = readR j cursor most from by unfold readR; rw [if_neg (by simp [hz])]] at h3
    rw [hz] at h2
    generalize readR j cursor most = R at *
    obtain ⟨x, e⟩ := R
    have h4 := a_samePag x x hbx hbx
    rw [decide_eq_true rfl] at h4
    refine acall_intro Tryd.func4 rfl _ Tryd.ntmps4 (Nat.le_of_ble_eq_true rfl) _ Tryd.results4 0 rfl rfl ?_
    repeat' (first | refine walk ?_ | (first | (apply to_call Tryd.func18 rfl rfl; intro hIsFn; refine o_callp hIsFn (h1 ..) ?_) | (apply to_call Tryd.func14 rfl rfl; intro hIsFn; refine o_callf hIsFn (h2 ..) ?_; skip) | (apply to_call Tryd.func19 rfl rfl; intro hIsFn; refine o_callp hIsFn (h3 ..) ?_) | (apply to_call Tryd.func16 rfl rfl; intro hIsFn; refine o_callf hIsFn (a_jbegun ..) ?_; skip) | (apply to_call Tryd.func20 rfl rfl; intro hIsFn; refine o_callf hIsFn (h4 ..) ?_; skip)) | ((first | (apply ops_split_t; rfl; rfl; exact nle rfl) | (apply ops_split_f; rfl; rfl; exact nle rfl) | (apply awp_cond; rfl)); all_goals (intro hc; have hp := hc; first | (simp at hp; done) | ((try simp at hp); first | (exfalso; omega) | skip))) | (apply awp_cond_any; rfl))
    all_goals try (exfalso; first | omega | (simp_all; done))
    all_goals (apply fin_bool; rfl; simp_all; done)
  · have h0 : readR j cursor most = (noPag, jouE j) := by unfold readR; rw [if_pos hz]
    rw [h0] at h1 hbx
    have h4 := a_samePag noPag noPag hbx hbx
    rw [decide_eq_true rfl] at h4
    have h4 : AFn C.P 20 [.agg noPag.row, .agg [.v (.bool false), .sl false [], .sl false [], .v (.int .i64 0), .v (.bool false)]] (.v (.bool true)) := h4
    generalize jouE j = E at *
    refine acall_intro Tryd.func4 rfl _ Tryd.ntmps4 (Nat.le_of_ble_eq_true rfl) _ Tryd.results4 0 rfl rfl ?_
    repeat' (first | refine walk ?_ | (first | (apply to_call Tryd.func18 rfl rfl; intro hIsFn; refine o_callp hIsFn (h1 ..) ?_) | (apply to_call Tryd.func14 rfl rfl; intro hIsFn; refine o_callf hIsFn (h2 ..) ?_; skip) | (apply to_call Tryd.func16 rfl rfl; intro hIsFn; refine o_callf hIsFn (a_jbegun ..) ?_; skip) | (apply to_call Tryd.func20 rfl rfl; intro hIsFn; refine o_callf hIsFn (h4 ..) ?_; skip)) | ((first | (apply ops_split_t; rfl; rfl; exact nle rfl) | (apply ops_split_f; rfl; rfl; exact nle rfl) | (apply awp_cond; rfl)); all_goals (intro hc; have hp := hc; first | (simp at hp; done) | ((try simp at hp); first | (exfalso; omega) | skip))) | (apply awp_cond_any; rfl))
    all_goals try (exfalso; first | omega | (simp_all; done))
    all_goals (apply fin_bool; rfl; simp_all; done)
theorem law_jchecks (j : Jou) (hb : JBig j) : AFn C.P 6 [.agg j.row] (.v (.bool true)) := by
  have h1 := a_jtree j hb
  have h2 := a_checkJ j hb
  have h5 := a_jcheck j hb
  by_cases hz : jouE j = 0
  · have hJ := jright_iff.1 hz
    have h3 := a_treeOf j hb hJ
    have hT : treeJ j = (nowT j, 0) := if_pos hz
    have hl := hJ.now.len
    have h4 := a_treeIs (nowT j) 0 0 (nowT j) (by omega) (by omega)
    rw [show treeIsB (nowT j) 0 0 (nowT j) = true from by simp [treeIsB]] at h4
    rw [hT] at h1
    rw [hz] at h2 h5
    generalize nowT j = U at *
    refine acall_intro Tryd.func6 rfl _ Tryd.ntmps6 (Nat.le_of_ble_eq_true rfl) _ Tryd.results6 0 rfl rfl ?_
    repeat' (first | refine walk ?_ | (first | (apply to_call Tryd.func22 rfl rfl; intro hIsFn; refine o_callp hIsFn (h1 ..) ?_) | (apply to_call Tryd.func14 rfl rfl; intro hIsFn; refine o_callf hIsFn (h2 ..) ?_; skip) | (apply to_call Tryd.func23 rfl rfl; intro hIsFn; refine o_callp hIsFn (h3 ..) ?_) | (apply to_call Tryd.func16 rfl rfl; intro hIsFn; refine o_callf hIsFn (a_jbegun ..) ?_; skip) | (apply to_call Tryd.func21 rfl rfl; intro hIsFn; refine o_callf hIsFn (h5 ..) ?_; skip) | (apply to_call Tryd.func24 rfl rfl; intro hIsFn; refine o_callf hIsFn (h4 ..) ?_; skip)) | ((first | (apply ops_split_t; rfl; rfl; exact nle rfl) | (apply ops_split_f; rfl; rfl; exact nle rfl) | (apply awp_cond; rfl)); all_goals (intro hc; have hp := hc; first | (simp at hp; done) | ((try simp at hp); first | (exfalso; omega) | skip))) | (apply awp_cond_any; rfl))
    all_goals try (exfalso; first | omega | (simp_all; done))
    all_goals (apply fin_bool; rfl; simp_all; done)
  · have hT : treeJ j = ([], jouE j) := if_neg hz
    rw [hT] at h1
    have h4 := a_treeIs [] (jouE j) (jouE j) [] (by simp) (by simp)
    rw [show treeIsB [] (jouE j) (jouE j) [] = true from by simp [treeIsB]] at h4
    have h4 : AFn C.P 24 [.sl false [], .v (.int .i64 (jouE j)), .v (.int .i64 (jouE j)), .sl false []] (.v (.bool true)) := h4
    generalize jouE j = E at *
    refine acall_intro Tryd.func6 rfl _ Tryd.ntmps6 (Nat.le_of_ble_eq_true rfl) _ Tryd.results6 0 rfl rfl ?_
    repeat' (first | refine walk ?_ | (first | (apply to_call Tryd.func22 rfl rfl; intro hIsFn; refine o_callp hIsFn (h1 ..) ?_) | (apply to_call Tryd.func14 rfl rfl; intro hIsFn; refine o_callf hIsFn (h2 ..) ?_; skip) | (apply to_call Tryd.func16 rfl rfl; intro hIsFn; refine o_callf hIsFn (a_jbegun ..) ?_; skip) | (apply to_call Tryd.func21 rfl rfl; intro hIsFn; refine o_callf hIsFn (h5 ..) ?_; skip) | (apply to_call Tryd.func24 rfl rfl; intro hIsFn; refine o_callf hIsFn (h4 ..) ?_; skip)) | ((first | (apply ops_split_t; rfl; rfl; exact nle rfl) | (apply ops_split_f; rfl; rfl; exact nle rfl) | (apply awp_cond; rfl)); all_goals (intro hc; have hp := hc; first | (simp at hp; done) | ((try simp at hp); first | (exfalso; omega) | skip))) | (apply awp_cond_any; rfl))
    all_goals try (exfalso; first | omega | (simp_all; done))
    all_goals (apply fin_bool; rfl; simp_all; done)
theorem law_jfollows (t : List Ent) (cursor : Int) (p : Pag) (hbt : EBig t) (hb : PBig p) : AFn C.P 7 [entAV t, .v (.int .i64 cursor), .agg p.row] (.v (.bool true)) := by
  have h1 := a_follow t cursor p hbt hb
  have h2 := a_followOf t cursor p hbt hb
  have hl := follow_len (t := t) (cursor := cursor) hb
  have hbad := @follow_bad t cursor p
  generalize followR t cursor p = R at *
  obtain ⟨x, n, e⟩ := R
  have h4 := a_treeIs x e e x hl hl
  rw [show treeIsB x e e x = true from by unfold treeIsB; by_cases he : e = 0 <;> simp_all] at h4
  refine acall_intro Tryd.func7 rfl _ Tryd.ntmps7 (Nat.le_of_ble_eq_true rfl) _ Tryd.results7 0 rfl rfl ?_
  repeat' (first | refine walk ?_ | (first | (apply to_call Tryd.func25 rfl rfl; intro hIsFn; refine o_callp hIsFn (h1 ..) ?_) | (apply to_call Tryd.func26 rfl rfl; intro hIsFn; refine o_callp hIsFn (h2 ..) ?_) | (apply to_call Tryd.func16 rfl rfl; intro hIsFn; refine o_callf hIsFn (a_jbegun ..) ?_; skip) | (apply to_call Tryd.func24 rfl rfl; intro hIsFn; refine o_callf hIsFn (h4 ..) ?_; skip)) | ((first | (apply ops_split_t; rfl; rfl; exact nle rfl) | (apply ops_split_f; rfl; rfl; exact nle rfl) | (apply awp_cond; rfl)); all_goals (intro hc; have hp := hc; first | (simp at hp; done) | ((try simp at hp); first | (exfalso; omega) | skip))) | (apply awp_cond_any; rfl))
  all_goals try (exfalso; first | omega | (simp_all; done))
  all_goals (apply fin_bool; rfl; simp_all; done)
theorem law_jonce (j : Jou) (key : Str) (l m : List Chg) (hb : JBig j) (hcb : CBig l) (hcm : CBig m) (hk : key.length ≤ 1000000000) : AFn C.P 5 [.agg j.row, .v (str key), chgAV l, chgAV m] (.v (.bool true)) := by
  have h1 := a_commit j key l hb hcb
  have hbx := commit_big (j := j) hb hcb hk
  have ha := fun x n e h => @commit_again j x key l m n e h
  generalize commitR j key l = R at *
  obtain ⟨x, n, e⟩ := R
  rcases ha x n e rfl with ⟨he, rfl⟩ | ⟨rfl, hx, hx2⟩
  · refine acall_intro Tryd.func5 rfl _ Tryd.ntmps5 (Nat.le_of_ble_eq_true rfl) _ Tryd.results5 0 rfl rfl ?_
    repeat' (first | refine walk ?_ | (first | (apply to_call Tryd.func13 rfl rfl; intro hIsFn; refine o_callp hIsFn (h1 ..) ?_) | (apply to_call Tryd.func16 rfl rfl; intro hIsFn; refine o_callf hIsFn (a_jbegun ..) ?_; skip)) | ((first | (apply ops_split_t; rfl; rfl; exact nle rfl) | (apply ops_split_f; rfl; rfl; exact nle rfl) | (apply awp_cond; rfl)); all_goals (intro hc; have hp := hc; first | (simp at hp; done) | ((try simp at hp); first | (exfalso; omega) | skip))) | (apply awp_cond_any; rfl))
    all_goals try (exfalso; first | omega | (simp_all; done))
    all_goals (apply fin_bool; rfl; simp_all; done)
  · have h2 := a_commit x key m hbx hcm
    rw [hx2] at h2
    have h3 := a_jcheck x hbx
    rw [hx] at h3
    have h4 := a_sameJou x x hbx hbx
    rw [decide_eq_true rfl] at h4
    clear ha hx2
    refine acall_intro Tryd.func5 rfl _ Tryd.ntmps5 (Nat.le_of_ble_eq_true rfl) _ Tryd.results5 0 rfl rfl ?_
    repeat' (first | refine walk ?_ | (first | (apply to_call Tryd.func13 rfl rfl; intro hIsFn; refine o_callp hIsFn (h1 ..) ?_) | (apply to_call Tryd.func13 rfl rfl; intro hIsFn; refine o_callp hIsFn (h2 ..) ?_) | (apply to_call Tryd.func16 rfl rfl; intro hIsFn; refine o_callf hIsFn (a_jbegun ..) ?_; skip) | (apply to_call Tryd.func21 rfl rfl; intro hIsFn; refine o_callf hIsFn (h3 ..) ?_; skip) | (apply to_call Tryd.func17 rfl rfl; intro hIsFn; refine o_callf hIsFn (h4 ..) ?_; skip)) | ((first | (apply ops_split_t; rfl; rfl; exact nle rfl) | (apply ops_split_f; rfl; rfl; exact nle rfl) | (apply awp_cond; rfl)); all_goals (intro hc; have hp := hc; first | (simp at hp; done) | ((try simp at hp); first | (exfalso; omega) | skip))) | (apply awp_cond_any; rfl))
    all_goals try (exfalso; first | omega | (simp_all; done))
    all_goals (apply fin_bool; rfl; simp_all; done)
end Go.Proofs.YtkkfilkmkdnboaaDoor
