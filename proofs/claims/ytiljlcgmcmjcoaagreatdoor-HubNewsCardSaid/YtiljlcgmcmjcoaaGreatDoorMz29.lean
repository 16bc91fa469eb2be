import Derived.Test.YtiljlcgmcmjcoaaGreatDoorMz28
import Derived.Test.YtiljlcgmcmjcoaaGreatDoorMz12
import Derived.Test.YtiljlcgmcmjcoaaGreatDoorMz17
import Derived.Test.YtiljlcgmcmjcoaaGreatDoorMz19
import Derived.Test.YtiljlcgmcmjcoaaGreatDoorMz11
/- Hubs in the abstract layer, 11: bounds; what must be in any case. -/
set_option linter.unusedSimpArgs false
set_option linter.unnecessarySimpa false
set_option linter.unusedVariables false
set_option maxHeartbeats 1000000
namespace Go.Proofs.YtiljlcgmcmjcoaaGreatDoor
open Go.Ab Go.RowKit
set_option maxRecDepth 10000
attribute [local irreducible] Awp Ops OpsX Wanted Red ExOk Go.Ab.Fin ACall Rz RzL RzRows Enters ResOk RenV RenVL ArgV ArgVL
theorem sess_big {u : Upl} (h : upErr u = 0) : SBig u.sess := by
  obtain ⟨a, b, c, d, e⟩ := upErr_get h
  refine ⟨fun s hs => ?_, by omega⟩
  have hc := c s hs
  have h2 := sessErr_size hc
  unfold sessErr at hc
  split at hc
  · split at hc
    · rename_i hn
      split at hc
      · omega
      · have := (isName_len hn).2
        exact ⟨by omega, by omega⟩
    · omega
  · omega
theorem newJ_big : JBig newJ := ⟨⟨by simp [newJ], by simp [newJ]⟩, ⟨by simp [newJ], by simp [newJ]⟩⟩
/-- What becomes of a hub keeps its bounds. -/
theorem serve_big {h : Hub} (hb : HBig h) (hr : HRight h) {r : Rqt} (rb : RBig r) : HBig (serveW h r).1 := by
  have hR := (serve_right hr r).right
  obtain ⟨a1, a2, a3, a4⟩ := graErr_all hr.gra
  have hkeep : FBig h.fols ∧ GBig h.gras := ⟨hb.fols, hb.gras⟩
  suffices hs : FBig (serveW h r).1.fols ∧ GBig (serveW h r).1.gras from ⟨hs.1, hs.2, sess_big hR.ups⟩
  have hcom : ∀ (u : Upl) (l : List Chg), CBig l → FBig (comH h r u l).1.fols ∧ GBig (comH h r u l).1.gras := fun u l lb => by
    unfold comH
    cases hj : jouAt h.fols r.folder with
    | none => exact hkeep
    | some j =>
      obtain ⟨hm, hh⟩ := jouAt_some hj
      have hJ : JRight j := (hr.each _ hm).2
      dsimp only
      by_cases h0 : (commitW j r.key l).2.2 = 0
      · rw [if_pos h0]
        refine ⟨⟨fun s hs => ?_, by show (setJ _ _ _).length ≤ _; unfold setJ; rw [List.length_map]; exact hb.fols.len⟩, hb.gras⟩
        rcases setJ_mem hs with ⟨rfl, _⟩ | ⟨hs, _⟩
        · refine ⟨rb.folder, ?_⟩
          show JBig (commitW j r.key l).1
          rw [commitW_eq hJ]
          exact commit_big (hb.fols.each _ hm).jou lb rb.key
        · exact hb.fols.each s hs
      · rw [if_neg h0]; exact hkeep
  unfold serveW
  split
  · exact hkeep
  split
  · exact hkeep
  split
  · unfold createH
    split
    · split
      · exact hkeep
      · refine ⟨⟨fun s hs => ?_, by show (insF _ _).length ≤ _; rw [insF_len]; have := hr.len; omega⟩, setG_big hb.gras a3 (by omega) (str_lift rb.folder) (str_lift rb.who)⟩
        rcases insF_mem.1 hs with rfl | hs
        · exact ⟨rb.folder, newJ_big⟩
        · exact hb.fols.each s hs
    · exact hkeep
  split
  · unfold giveH
    split
    · exact hkeep
    · by_cases h0 : (giveR h.gras r.folder r.who r.name r.number).2 = 0
      · rw [if_pos h0]
        refine ⟨hb.fols, ?_⟩
        show GBig (giveR _ _ _ _ _).1
        rw [(giveR_get h0).2.2]
        exact setG_big hb.gras a3 (by omega) (str_lift rb.folder) (str_lift rb.name)
      · rw [if_neg h0]; exact hkeep
  split
  · unfold pageH
    split
    · exact hkeep
    · split
      · exact hkeep
      · split <;> exact hkeep
  split
  · unfold upsH
    split <;> exact hkeep
  split
  · unfold upsH
    split <;> exact hkeep
  split
  · unfold qryH
    split <;> exact hkeep
  · unfold editH
    split
    · exact hkeep
    split
    · unfold finH
      split
      · refine hcom _ _ ⟨fun c hc => ?_, by simp⟩
        rw [List.mem_singleton.1 hc]
        refine ⟨rb.name, by simp, ?_⟩
        show (finR h.ups r.who r.number h.now).2.1.length ≤ _
        unfold finR
        by_cases q1 : mineErr h.ups r.who r.number h.now = 0
        · rw [if_pos q1]
          have := mine_text q1
          split
          · simp
          · show (mineS h.ups r.who r.number h.now).text.length ≤ _; omega
        · rw [if_neg q1]; simp
      · exact hkeep
    · exact hcom _ _ rb.chs
-- What must be in any case.
def bH1 : Hub := ⟨[⟨[102], newJ⟩], [⟨[102], [97], 3⟩], ⟨[], 1, 10, 1000⟩, 0⟩
def bH2 : Hub := ⟨[⟨[102], ⟨[], 1, [⟨1, [107], [⟨2, [120], [], [49], 0⟩]⟩]⟩⟩], [⟨[102], [97], 3⟩], ⟨[], 1, 10, 1000⟩, 0⟩
def bR1 : Rqt := ⟨8, [97], [102], [], [], [], 0, 0, 0, []⟩
def bR2 : Rqt := ⟨1, [97], [102], [], [107], [], 0, 0, 0, [⟨2, [120], [], [49], 0⟩]⟩
theorem bH_big0 : HBig (newH 10 1000) := ⟨⟨nofun, by decide⟩, ⟨nofun, by decide⟩, ⟨nofun, by decide⟩⟩
theorem bR_big1 : RBig bR1 := ⟨by decide, by decide, by decide, by decide, by decide, ⟨nofun, by decide⟩⟩
theorem bR_big2 : RBig bR2 := ⟨by decide, by decide, by decide, by decide, by decide, ⟨fun c hc => by rw [List.mem_singleton.1 hc]; exact ⟨by decide, by decide, by decide⟩, by decide⟩⟩
theorem a_hubBegun : AFn C.P 14 [] (.v (.bool true)) := by
  have h1 := a_hnew 10 1000
  rw [show newR 10 1000 = (newH 10 1000, 0) from by kernel_rfl] at h1
  have r0 : HRight (newH 10 1000) := hright_iff.1 (by kernel_rfl)
  have h2 := t_serveW (newH 10 1000) bH_big0 r0 bR1 bR_big1
  have b1 := serve_big bH_big0 r0 bR_big1
  have r1 := (serve_right r0 bR1).right
  rw [show serveW (newH 10 1000) bR1 = (bH1, noAns) from by kernel_rfl] at h2 b1 r1
  have h3 := t_serveW bH1 b1 r1 bR2 bR_big2
  have b2 := serve_big b1 r1 bR_big2
  rw [show serveW bH1 bR2 = (bH2, ⟨0, 1, noPag⟩) from by kernel_rfl] at h3 b2
  have h4 := a_htree bH2 b2 [102]
  rw [show treeR bH2 [102] = ([⟨[120], false, [49], 1⟩], 0) from by kernel_rfl] at h4
  clear b1 b2 r0 r1
  unfold tupS at h2 h3
  refine acall_intro Tryz.func14 rfl _ Tryz.ntmps14 (Nat.le_of_ble_eq_true rfl) _ Tryz.results14 0 rfl rfl ?_
  repeat' (first | refine walk ?_ | (first | (refine o_fzl ?_) | (apply to_call Tryz.func12 rfl rfl; intro hIsFn; refine o_callp hIsFn (h1 ..) ?_) | (apply to_call Tryz.func18 rfl rfl; intro hIsFn; refine o_callp hIsFn (h2 ..) ?_) | (apply to_call Tryz.func18 rfl rfl; intro hIsFn; refine o_callp hIsFn (h3 ..) ?_) | (apply to_call Tryz.func21 rfl rfl; intro hIsFn; refine o_callp hIsFn (h4 ..) ?_)) | ((first | (apply ops_split_t; rfl; rfl; exact nle rfl) | (apply ops_split_f; rfl; rfl; exact nle rfl) | (apply awp_cond; rfl)); all_goals (intro hc; have hp := hc; first | (simp at hp; done) | ((try simp at hp); first | (exfalso; omega) | skip))) | (apply awp_cond_any; rfl))
  all_goals try (exfalso; simp_all; done)
  all_goals (apply fin_bool; rfl; first | rfl | simp; done)
end Go.Proofs.YtiljlcgmcmjcoaaGreatDoor

/- Hubs in the abstract layer, 12: the laws News, Goes, Twice, Apart. -/
set_option linter.unusedSimpArgs false
set_option linter.unnecessarySimpa false
set_option linter.unusedVariables false
set_option maxHeartbeats 1000000
namespace Go.Proofs.YtiljlcgmcmjcoaaGreatDoor
open Go.Ab Go.RowKit
set_option maxRecDepth 10000
attribute [local irreducible] Awp Ops OpsX Wanted Red ExOk Go.Ab.Fin ACall Rz RzL RzRows Enters ResOk RenV RenVL ArgV ArgVL
theorem noHub_big : HBig noHub := ⟨⟨nofun, by decide⟩, ⟨nofun, by decide⟩, ⟨nofun, by decide⟩⟩
theorem newH_big (a b : Int) : HBig (newH a b) := ⟨⟨nofun, by simp [newH]⟩, ⟨nofun, by simp [newH]⟩, ⟨nofun, by simp [newH]⟩⟩
theorem law_hnews (lasts room : Int) : AFn C.P 3 [.v (.int .i64 lasts), .v (.int .i64 room)] (.v (.bool true)) := by
  have h1 := a_hnew lasts room
  have h2 := a_checkR ⟨[], 1, lasts, room⟩ (ubig_nil _ _ _)
  have hg := a_hubBegun
  unfold newR at h1
  by_cases h0 : upErr ⟨[], 1, lasts, room⟩ = 0
  · rw [if_pos h0] at h1
    rw [h0] at h2
    have hs := a_sameHub (newH lasts room) (newH_big _ _) (by simp [newH]) (by simp [newH])
    refine acall_intro Tryz.func3 rfl _ Tryz.ntmps3 (Nat.le_of_ble_eq_true rfl) _ Tryz.results3 0 rfl rfl ?_
    repeat' (first | refine walk ?_ | (first | (apply to_call Tryz.func12 rfl rfl; intro hIsFn; refine o_callp hIsFn (h1 ..) ?_) | (apply to_call Tryz.func13 rfl rfl; intro hIsFn; refine o_callf hIsFn (h2 ..) ?_; skip) | (apply to_call Tryz.func14 rfl rfl; intro hIsFn; refine o_callf hIsFn (hg ..) ?_; skip) | (apply to_call Tryz.func15 rfl rfl; intro hIsFn; refine o_callf hIsFn (hs ..) ?_; skip)) | ((first | (apply ops_split_t; rfl; rfl; exact nle rfl) | (apply ops_split_f; rfl; rfl; exact nle rfl) | (apply awp_cond; rfl)); all_goals (intro hc; have hp := hc; first | (simp at hp; done) | ((try simp at hp); first | (exfalso; omega) | skip))) | (apply awp_cond_any; rfl))
    all_goals try (exfalso; first | omega | contradiction | simp_all; done)
    all_goals (apply fin_bool; rfl; first | rfl | simp; done)
  · rw [if_neg h0] at h1
    have hs := a_sameHub noHub noHub_big (by decide) (by decide)
    generalize upErr ⟨[], 1, lasts, room⟩ = E at *
    have d0 : decide (E = E) = true := by simp
    refine acall_intro Tryz.func3 rfl _ Tryz.ntmps3 (Nat.le_of_ble_eq_true rfl) _ Tryz.results3 0 rfl rfl ?_
    repeat' (first | refine walk ?_ | (first | (apply to_call Tryz.func12 rfl rfl; intro hIsFn; refine o_callp hIsFn (h1 ..) ?_) | (apply to_call Tryz.func13 rfl rfl; intro hIsFn; refine o_callf hIsFn (h2 ..) ?_; skip) | (apply to_call Tryz.func14 rfl rfl; intro hIsFn; refine o_callf hIsFn (hg ..) ?_; skip) | (apply to_call Tryz.func15 rfl rfl; intro hIsFn; refine o_callf hIsFn (hs ..) ?_; skip)) | ((first | (apply ops_split_t; rfl; rfl; exact nle rfl) | (apply ops_split_f; rfl; rfl; exact nle rfl) | (apply awp_cond; rfl)); all_goals (intro hc; have hp := hc; first | (simp at hp; done) | ((try simp at hp); first | (exfalso; omega) | skip))) | (apply awp_cond_any; rfl))
    all_goals try (exfalso; first | omega | contradiction | simp_all; done)
    all_goals (apply fin_bool; rfl; first | rfl | simp; done)
theorem law_hnews_all (ys : List AV) (h : TyAllW C.tab 140737488355328 [3, 3] ys) : AFn C.P 3 ys (.v (.bool true)) := by
  obtain ⟨_, _, rfl, h0, _, _, rfl, h1, rfl⟩ := h
  obtain ⟨a, rfl, _⟩ := tyv_int h0
  obtain ⟨b, rfl, _⟩ := tyv_int h1
  exact law_hnews a b
end Go.Proofs.YtiljlcgmcmjcoaaGreatDoor

/- Hubs in the abstract layer, 13: the law Denies. -/
set_option linter.unusedSimpArgs false
set_option linter.unnecessarySimpa false
set_option linter.unusedVariables false
set_option maxHeartbeats 1000000
namespace Go.Proofs.YtiljlcgmcmjcoaaGreatDoor
open Go.Ab Go.RowKit
set_option maxRecDepth 10000
attribute [local irreducible] Awp Ops OpsX Wanted Red ExOk Go.Ab.Fin ACall Rz RzL RzRows Enters ResOk RenV RenVL ArgV ArgVL
end Go.Proofs.YtiljlcgmcmjcoaaGreatDoor

/- Hubs in the abstract layer, 14: the law Uploads. -/
set_option linter.unusedSimpArgs false
set_option linter.unnecessarySimpa false
set_option linter.unusedVariables false
set_option maxHeartbeats 1000000
namespace Go.Proofs.YtiljlcgmcmjcoaaGreatDoor
open Go.Ab Go.RowKit
set_option maxRecDepth 10000
attribute [local irreducible] Awp Ops OpsX Wanted Red ExOk Go.Ab.Fin ACall Rz RzL RzRows Enters ResOk RenV RenVL ArgV ArgVL
end Go.Proofs.YtiljlcgmcmjcoaaGreatDoor
