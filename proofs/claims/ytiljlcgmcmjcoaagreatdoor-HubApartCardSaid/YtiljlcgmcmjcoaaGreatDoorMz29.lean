import Derived.Test.YtiljlcgmcmjcoaaGreatDoorMz28
import Derived.Test.YtiljlcgmcmjcoaaGreatDoorMz12
import Derived.Test.YtiljlcgmcmjcoaaGreatDoorMz17
import Derived.Test.YtiljlcgmcmjcoaaGreatDoorMz19
import Derived.Test.YtiljlcgmcmjcoaaGreatDoorMz11
/- Hubs in the abstract layer, 11: bounds; what must be in any case. -/
set_option linter.unusedSimpArgs false
set_option linter.unnecessarySimpa false
set_option linter.unusedVariables false
set_option maxHeartbeats 1000000
namespace Go.Proofs.YtiljlcgmcmjcoaaGreatDoor
open Go.Ab Go.RowKit
set_option maxRecDepth 10000
attribute [local irreducible] Awp Ops OpsX Wanted Red ExOk Go.Ab.Fin ACall Rz RzL RzRows Enters ResOk RenV RenVL ArgV ArgVL
theorem sess_big {u : Upl} (h : upErr u = 0) : SBig u.sess := by
  obtain ⟨a, b, c, d, e⟩ := upErr_get h
  refine ⟨fun s hs => ?_, by omega⟩
  have hc := c s hs
  have h2 := sessErr_size hc
  unfold sessErr at hc
  split at hc
  · split at hc
    · rename_i hn
      split at hc
      · omega
      · have := (isName_len hn).2
        exact ⟨by omega, by omega⟩
    · omega
  · omega
theorem newJ_big : JBig newJ := ⟨⟨by simp [newJ], by simp [newJ]⟩, ⟨by simp [newJ], by simp [newJ]⟩⟩
/-- What becomes of a hub keeps its bounds. -/
theorem serve_big {h : Hub} (hb : HBig h) (hr : HRight h) {r : Rqt} (rb : RBig r) : HBig (serveW h r).1 := by
  have hR := (serve_right hr r).right
  obtain ⟨a1, a2, a3, a4⟩ := graErr_all hr.gra
  have hkeep : FBig h.fols ∧ GBig h.gras := ⟨hb.fols, hb.gras⟩
  suffices hs : FBig (serveW h r).1.fols ∧ GBig (serveW h r).1.gras from ⟨hs.1, hs.2, sess_big hR.ups⟩
  have hcom : ∀ (u : Upl) (l : List Chg), CBig l → FBig (comH h r u l).1.fols ∧ GBig (comH h r u l).1.gras := fun u l lb => by
    unfold comH
    cases hj : jouAt h.fols r.folder with
    | none => exact hkeep
    | some j =>
      obtain ⟨hm, hh⟩ := jouAt_some hj
      have hJ : JRight j := (hr.each _ hm).2
      dsimp only
      by_cases h0 : (commitW j r.key l).2.2 = 0
      · rw [if_pos h0]
        refine ⟨⟨fun s hs => ?_, by show (setJ _ _ _).length ≤ _; unfold setJ; rw [List.length_map]; exact hb.fols.len⟩, hb.gras⟩
        rcases setJ_mem hs with ⟨rfl, _⟩ | ⟨hs, _⟩
        · refine ⟨rb.folder, ?_⟩
          show JBig (commitW j r.key l).1
          rw [commitW_eq hJ]
          exact commit_big (hb.fols.each _ hm).jou lb rb.key
        · exact hb.fols.each s hs
      · rw [if_neg h0]; exact hkeep
  unfold serveW
  split
  · exact hkeep
  split
  · exact hkeep
  split
  · unfold createH
    split
    · split
      · exact hkeep
      · refine ⟨⟨fun s hs => ?_, by show (insF _ _).length ≤ _; rw [insF_len]; have := hr.len; omega⟩, setG_big hb.gras a3 (by omega) (str_lift rb.folder) (str_lift rb.who)⟩
        rcases insF_mem.1 hs with rfl | hs
        · exact ⟨rb.folder, newJ_big⟩
        · exact hb.fols.each s hs
    · exact hkeep
  split
  · unfold giveH
    split
    · exact hkeep
    · by_cases h0 : (giveR h.gras r.folder r.who r.name r.number).2 = 0
      · rw [if_pos h0]
        refine ⟨hb.fols, ?_⟩
        show GBig (giveR _ _ _ _ _).1
        rw [(giveR_get h0).2.2]
        exact setG_big hb.gras a3 (by omega) (str_lift rb.folder) (str_lift rb.name)
      · rw [if_neg h0]; exact hkeep
  split
  · unfold pageH
    split
    · exact hkeep
    · split
      · exact hkeep
      · split <;> exact hkeep
  split
  · unfold upsH
    split <;> exact hkeep
  split
  · unfold upsH
    split <;> exact hkeep
  split
  · unfold qryH
    split <;> exact hkeep
  · unfold editH
    split
    · exact hkeep
    split
    · unfold finH
      split
      · refine hcom _ _ ⟨fun c hc => ?_, by simp⟩
        rw [List.mem_singleton.1 hc]
        refine ⟨rb.name, by simp, ?_⟩
        show (finR h.ups r.who r.number h.now).2.1.length ≤ _
        unfold finR
        by_cases q1 : mineErr h.ups r.who r.number h.now = 0
        · rw [if_pos q1]
          have := mine_text q1
          split
          · simp
          · show (mineS h.ups r.who r.number h.now).text.length ≤ _; omega
        · rw [if_neg q1]; simp
      · exact hkeep
    · exact hcom _ _ rb.chs
theorem noPag_big : PBig noPag := ⟨⟨by simp [noPag], by simp [noPag]⟩, ⟨by simp [noPag], by simp [noPag]⟩⟩
theorem ans_big {h : Hub} (hb : HBig h) (hr : HRight h) (r : Rqt) : PBig (serveW h r).2.page := by
  have hcom : ∀ (u : Upl) (l : List Chg), PBig (comH h r u l).2.page := fun u l => by
    unfold comH
    split
    · exact noPag_big
    · split <;> exact noPag_big
  unfold serveW
  split
  · exact noPag_big
  split
  · exact noPag_big
  split
  · unfold createH
    split
    · split <;> exact noPag_big
    · exact noPag_big
  split
  · unfold giveH
    split
    · exact noPag_big
    · split <;> exact noPag_big
  split
  · unfold pageH
    split
    · exact noPag_big
    · cases hj : jouAt h.fols r.folder with
      | none => exact noPag_big
      | some j =>
        obtain ⟨hm, hh⟩ := jouAt_some hj
        have hJ : JRight j := (hr.each _ hm).2
        have hB : JBig j := (hb.fols.each _ hm).jou
        dsimp only
        split
        · show PBig (readW j r.number 10).1
          unfold readW
          split
          · exact noPag_big
          split
          · exact noPag_big
          split
          · exact ⟨hJ.now.big, ⟨by simp, by simp⟩⟩
          · refine ⟨⟨by simp, by simp⟩, ⟨fun c hc => hB.coms.each c (List.mem_of_mem_drop (List.mem_of_mem_take hc)), ?_⟩⟩
            have := hJ.len
            show (partC j r.number 10).length ≤ _
            unfold partC
            simp
            omega
        · exact noPag_big
  split
  · unfold upsH
    split <;> exact noPag_big
  split
  · unfold upsH
    split <;> exact noPag_big
  split
  · unfold qryH
    split <;> exact noPag_big
  · unfold editH
    split
    · exact noPag_big
    split
    · unfold finH
      split
      · exact hcom _ _
      · exact noPag_big
    · exact hcom _ _
-- What must be in any case.
def bH1 : Hub := ⟨[⟨[102], newJ⟩], [⟨[102], [97], 3⟩], ⟨[], 1, 10, 1000⟩, 0⟩
def bH2 : Hub := ⟨[⟨[102], ⟨[], 1, [⟨1, [107], [⟨2, [120], [], [49], 0⟩]⟩]⟩⟩], [⟨[102], [97], 3⟩], ⟨[], 1, 10, 1000⟩, 0⟩
def bR1 : Rqt := ⟨8, [97], [102], [], [], [], 0, 0, 0, []⟩
def bR2 : Rqt := ⟨1, [97], [102], [], [107], [], 0, 0, 0, [⟨2, [120], [], [49], 0⟩]⟩
theorem bH_big0 : HBig (newH 10 1000) := ⟨⟨nofun, by decide⟩, ⟨nofun, by decide⟩, ⟨nofun, by decide⟩⟩
theorem bR_big1 : RBig bR1 := ⟨by decide, by decide, by decide, by decide, by decide, ⟨nofun, by decide⟩⟩
theorem bR_big2 : RBig bR2 := ⟨by decide, by decide, by decide, by decide, by decide, ⟨fun c hc => by rw [List.mem_singleton.1 hc]; exact ⟨by decide, by decide, by decide⟩, by decide⟩⟩
theorem a_hubBegun : AFn C.P 14 [] (.v (.bool true)) := by
  have h1 := a_hnew 10 1000
  rw [show newR 10 1000 = (newH 10 1000, 0) from by kernel_rfl] at h1
  have r0 : HRight (newH 10 1000) := hright_iff.1 (by kernel_rfl)
  have h2 := t_serveW (newH 10 1000) bH_big0 r0 bR1 bR_big1
  have b1 := serve_big bH_big0 r0 bR_big1
  have r1 := (serve_right r0 bR1).right
  rw [show serveW (newH 10 1000) bR1 = (bH1, noAns) from by kernel_rfl] at h2 b1 r1
  have h3 := t_serveW bH1 b1 r1 bR2 bR_big2
  have b2 := serve_big b1 r1 bR_big2
  rw [show serveW bH1 bR2 = (bH2, ⟨0, 1, noPag⟩) from by kernel_rfl] at h3 b2
  have h4 := a_htree bH2 b2 [102]
  rw [show treeR bH2 [102] = ([⟨[120], false, [49], 1⟩], 0) from by kernel_rfl] at h4
  clear b1 b2 r0 r1
  unfold tupS at h2 h3
  refine acall_intro Tryz.func14 rfl _ Tryz.ntmps14 (Nat.le_of_ble_eq_true rfl) _ Tryz.results14 0 rfl rfl ?_
  repeat' (first | refine walk ?_ | (first | (refine o_fzl ?_) | (apply to_call Tryz.func12 rfl rfl; intro hIsFn; refine o_callp hIsFn (h1 ..) ?_) | (apply to_call Tryz.func18 rfl rfl; intro hIsFn; refine o_callp hIsFn (h2 ..) ?_) | (apply to_call Tryz.func18 rfl rfl; intro hIsFn; refine o_callp hIsFn (h3 ..) ?_) | (apply to_call Tryz.func21 rfl rfl; intro hIsFn; refine o_callp hIsFn (h4 ..) ?_)) | ((first | (apply ops_split_t; rfl; rfl; exact nle rfl) | (apply ops_split_f; rfl; rfl; exact nle rfl) | (apply awp_cond; rfl)); all_goals (intro hc; have hp := hc; first | (simp at hp; done) | ((try simp at hp); first | (exfalso; omega) | skip))) | (apply awp_cond_any; rfl))
  all_goals try (exfalso; simp_all; done)
  all_goals (apply fin_bool; rfl; first | rfl | simp; done)
end Go.Proofs.YtiljlcgmcmjcoaaGreatDoor

/- Hubs in the abstract layer, 12: the laws News, Goes, Twice, Apart. -/
set_option linter.unusedSimpArgs false
set_option linter.unnecessarySimpa false
set_option linter.unusedVariables false
set_option maxHeartbeats 1000000
namespace Go.Proofs.YtiljlcgmcmjcoaaGreatDoor
open Go.Ab Go.RowKit
set_option maxRecDepth 10000
attribute [local irreducible] Awp Ops OpsX Wanted Red ExOk Go.Ab.Fin ACall Rz RzL RzRows Enters ResOk RenV RenVL ArgV ArgVL
theorem HRight.lens {h : Hub} (hr : HRight h) : h.fols.length ≤ 1000000 ∧ h.gras.length ≤ 1000000 := by
  have := hr.len
  have := (graErr_all hr.gra).1
  omega
theorem law_hgoes (h : Hub) (hb : HBig h) (r : Rqt) (rb : RBig r) : AFn C.P 6 [hubAV h, rqtAV r] (.v (.bool true)) := by
  have hg := a_hubBegun
  have h1 := a_serve h hb r rb
  have h2 := a_hcheck h hb
  unfold serveR at h1
  by_cases h0 : hubErr h = 0
  case neg =>
    rw [if_neg h0] at h1
    unfold tupS at h1
    generalize hubErr h = E at *
    have d0 : decide (E = E) = true := by simp
    refine acall_intro Tryz.func6 rfl _ Tryz.ntmps6 (Nat.le_of_ble_eq_true rfl) _ Tryz.results6 0 rfl rfl ?_
    repeat' (first | refine walk ?_ | (first | (apply to_call Tryz.func14 rfl rfl; intro hIsFn; refine o_callf hIsFn (hg ..) ?_; skip) | (apply to_call Tryz.func18 rfl rfl; intro hIsFn; refine o_callp hIsFn (h1 ..) ?_) | (apply to_call Tryz.func16 rfl rfl; intro hIsFn; refine o_callf hIsFn (h2 ..) ?_; skip)) | ((first | (apply ops_split_t; rfl; rfl; exact nle rfl) | (apply ops_split_f; rfl; rfl; exact nle rfl) | (apply awp_cond; rfl)); all_goals (intro hc; have hp := hc; first | (simp at hp; done) | ((try simp at hp); first | (exfalso; omega) | skip))) | (apply awp_cond_any; rfl))
    all_goals try (exfalso; first | omega | contradiction | simp_all; done)
    all_goals (apply fin_bool; rfl; first | rfl | simp; done)
  rw [if_pos h0] at h1
  have hr := hright_iff.1 h0
  have hS := serve_right hr r
  have h3 := a_hcheck (serveW h r).1 (serve_big hb hr rb)
  rw [hright_iff.2 hS.right] at h3
  have hs := a_sameHub h hb hr.lens.1 hr.lens.2
  by_cases he : (serveW h r).2.err = 0
  · generalize serveW h r = P at *
    obtain ⟨x, a⟩ := P
    obtain ⟨ae, an, ap⟩ := a
    dsimp only at *
    subst he
    unfold tupS at h1
    refine acall_intro Tryz.func6 rfl _ Tryz.ntmps6 (Nat.le_of_ble_eq_true rfl) _ Tryz.results6 0 rfl rfl ?_
    repeat' (first | refine walk ?_ | (first | (apply to_call Tryz.func14 rfl rfl; intro hIsFn; refine o_callf hIsFn (hg ..) ?_; skip) | (apply to_call Tryz.func18 rfl rfl; intro hIsFn; refine o_callp hIsFn (h1 ..) ?_) | (apply to_call Tryz.func16 rfl rfl; intro hIsFn; refine o_callf hIsFn (h3 ..) ?_; skip)) | ((first | (apply ops_split_t; rfl; rfl; exact nle rfl) | (apply ops_split_f; rfl; rfl; exact nle rfl) | (apply awp_cond; rfl)); all_goals (intro hc; have hp := hc; first | (simp at hp; done) | ((try simp at hp); first | (exfalso; omega) | skip))) | (apply awp_cond_any; rfl))
    all_goals try (exfalso; first | omega | contradiction | simp_all; done)
    all_goals (apply fin_bool; rfl; first | rfl | simp; done)
  · have hsm := hS.same he
    have ha := a_sameAns (errA (serveW h r).2.err) noPag_big
    generalize (serveW h r).2.err = E at *
    rw [hsm] at h1 h3
    unfold tupS at h1
    have d0 : decide (E = 0) = false := decide_eq_false he
    refine acall_intro Tryz.func6 rfl _ Tryz.ntmps6 (Nat.le_of_ble_eq_true rfl) _ Tryz.results6 0 rfl rfl ?_
    repeat' (first | refine walk ?_ | (first | (apply to_call Tryz.func14 rfl rfl; intro hIsFn; refine o_callf hIsFn (hg ..) ?_; skip) | (apply to_call Tryz.func18 rfl rfl; intro hIsFn; refine o_callp hIsFn (h1 ..) ?_) | (apply to_call Tryz.func16 rfl rfl; intro hIsFn; refine o_callf hIsFn (h3 ..) ?_; skip) | (apply to_call Tryz.func15 rfl rfl; intro hIsFn; refine o_callf hIsFn (hs ..) ?_; skip) | (apply to_call Tryz.func20 rfl rfl; intro hIsFn; refine o_callf hIsFn (ha ..) ?_; skip)) | ((first | (apply ops_split_t; rfl; rfl; exact nle rfl) | (apply ops_split_f; rfl; rfl; exact nle rfl) | (apply awp_cond; rfl)); all_goals (intro hc; have hp := hc; first | (simp at hp; done) | ((try simp at hp); first | (exfalso; omega) | skip))) | (apply awp_cond_any; rfl))
    all_goals try (exfalso; first | omega | contradiction | simp_all; done)
    all_goals (apply fin_bool; rfl; first | rfl | simp; done)
theorem law_htwice (h : Hub) (hb : HBig h) (r : Rqt) (rb : RBig r) : AFn C.P 8 [hubAV h, rqtAV r] (.v (.bool true)) := by
  have hg := a_hubBegun
  obtain ⟨kind, who, folder, name, key, text, number, offset, base, chs⟩ := r
  have rb1 : RBig ⟨1, who, folder, name, key, text, number, offset, base, chs⟩ := ⟨rb.1, rb.2, rb.3, rb.4, rb.5, rb.6⟩
  have h1 := a_serve h hb _ rb1
  unfold serveR at h1
  by_cases h0 : hubErr h = 0
  case neg =>
    rw [if_neg h0] at h1
    unfold tupS at h1
    generalize hubErr h = E at *
    refine acall_intro Tryz.func8 rfl _ Tryz.ntmps8 (Nat.le_of_ble_eq_true rfl) _ Tryz.results8 0 rfl rfl ?_
    repeat' (first | refine walk ?_ | (first | (apply to_call Tryz.func14 rfl rfl; intro hIsFn; refine o_callf hIsFn (hg ..) ?_; skip) | (apply to_call Tryz.func18 rfl rfl; intro hIsFn; refine o_callp hIsFn (h1 ..) ?_)) | ((first | (apply ops_split_t; rfl; rfl; exact nle rfl) | (apply ops_split_f; rfl; rfl; exact nle rfl) | (apply awp_cond; rfl)); all_goals (intro hc; have hp := hc; first | (simp at hp; done) | ((try simp at hp); first | (exfalso; omega) | skip))) | (apply awp_cond_any; rfl))
    all_goals try (exfalso; first | omega | contradiction | simp_all; done)
    all_goals (apply fin_bool; rfl; first | rfl | simp; done)
  rw [if_pos h0] at h1
  have hr := hright_iff.1 h0
  have hS := (serve_right hr ⟨1, who, folder, name, key, text, number, offset, base, chs⟩).right
  have hB := serve_big hb hr rb1
  have hP := ans_big hb hr ⟨1, who, folder, name, key, text, number, offset, base, chs⟩
  have h2 := t_serveW _ hB hS _ rb1
  rw [serve_twice hr rfl] at h2
  generalize serveW h ⟨1, who, folder, name, key, text, number, offset, base, chs⟩ = P at *
  obtain ⟨x, a⟩ := P
  dsimp only at *
  have hs := a_sameHub x hB hS.lens.1 hS.lens.2
  have ha := a_sameAns a hP
  unfold tupS at h1 h2
  clear hS hB hP rb rb1 hr h0 hb
  refine acall_intro Tryz.func8 rfl _ Tryz.ntmps8 (Nat.le_of_ble_eq_true rfl) _ Tryz.results8 0 rfl rfl ?_
  repeat' (first | refine walk ?_ | (first | (apply to_call Tryz.func14 rfl rfl; intro hIsFn; refine o_callf hIsFn (hg ..) ?_; skip) | (apply to_call Tryz.func18 rfl rfl; intro hIsFn; refine o_callp hIsFn (h1 ..) ?_) | (apply to_call Tryz.func18 rfl rfl; intro hIsFn; refine o_callp hIsFn (h2 ..) ?_) | (apply to_call Tryz.func15 rfl rfl; intro hIsFn; refine o_callf hIsFn (hs ..) ?_; skip) | (apply to_call Tryz.func20 rfl rfl; intro hIsFn; refine o_callf hIsFn (ha ..) ?_; skip)) | ((first | (apply ops_split_t; rfl; rfl; exact nle rfl) | (apply ops_split_f; rfl; rfl; exact nle rfl) | (apply awp_cond; rfl)); all_goals (intro hc; have hp := hc; first | (simp at hp; done) | ((try simp at hp); first | (exfalso; omega) | skip))) | (apply awp_cond_any; rfl))
  all_goals try (exfalso; first | omega | contradiction | simp_all; done)
  all_goals (apply fin_bool; rfl; first | rfl | simp; done)
theorem law_hapart (h : Hub) (hb : HBig h) (r : Rqt) (rb : RBig r) (o : Rqt) (ob : RBig o) : AFn C.P 7 [hubAV h, rqtAV r, rqtAV o] (.v (.bool true)) := by
  have hg := a_hubBegun
  by_cases hk : r.kind = 2 ∨ r.kind = 1
  case neg =>
    have d1 : (!decide (r.kind = 2)) = true := by simp; omega
    have d2 : (!decide (r.kind = 1)) = true := by simp; omega
    refine acall_intro Tryz.func7 rfl _ Tryz.ntmps7 (Nat.le_of_ble_eq_true rfl) _ Tryz.results7 0 rfl rfl ?_
    repeat' (first | refine walk ?_ | (first | (apply to_call Tryz.func14 rfl rfl; intro hIsFn; refine o_callf hIsFn (hg ..) ?_; skip)) | ((first | (apply ops_split_t; rfl; rfl; exact nle rfl) | (apply ops_split_f; rfl; rfl; exact nle rfl) | (apply awp_cond; rfl)); all_goals (intro hc; have hp := hc; first | (simp at hp; done) | ((try simp at hp); first | (exfalso; omega) | skip))) | (apply awp_cond_any; rfl))
    all_goals try (exfalso; first | omega | contradiction | simp_all; done)
    all_goals (apply fin_bool; rfl; first | rfl | simp; done)
  by_cases hf : o.folder = r.folder
  · have d3 : decide (o.folder = r.folder) = true := decide_eq_true hf
    rcases hk with hk | hk
    · have d1 : (!decide (r.kind = 2)) = false := by simp [hk]
      refine acall_intro Tryz.func7 rfl _ Tryz.ntmps7 (Nat.le_of_ble_eq_true rfl) _ Tryz.results7 0 rfl rfl ?_
      repeat' (first | refine walk ?_ | (first | (apply to_call Tryz.func14 rfl rfl; intro hIsFn; refine o_callf hIsFn (hg ..) ?_; skip)) | ((first | (apply ops_split_t; rfl; rfl; exact nle rfl) | (apply ops_split_f; rfl; rfl; exact nle rfl) | (apply awp_cond; rfl)); all_goals (intro hc; have hp := hc; first | (simp at hp; done) | ((try simp at hp); first | (exfalso; omega) | skip))) | (apply awp_cond_any; rfl))
      all_goals try (exfalso; first | omega | contradiction | simp_all; done)
      all_goals (apply fin_bool; rfl; first | rfl | simp; done)
    · have d1 : (!decide (r.kind = 2)) = true := by simp [hk]
      have d2 : (!decide (r.kind = 1)) = false := by simp [hk]
      refine acall_intro Tryz.func7 rfl _ Tryz.ntmps7 (Nat.le_of_ble_eq_true rfl) _ Tryz.results7 0 rfl rfl ?_
      repeat' (first | refine walk ?_ | (first | (apply to_call Tryz.func14 rfl rfl; intro hIsFn; refine o_callf hIsFn (hg ..) ?_; skip)) | ((first | (apply ops_split_t; rfl; rfl; exact nle rfl) | (apply ops_split_f; rfl; rfl; exact nle rfl) | (apply awp_cond; rfl)); all_goals (intro hc; have hp := hc; first | (simp at hp; done) | ((try simp at hp); first | (exfalso; omega) | skip))) | (apply awp_cond_any; rfl))
      all_goals try (exfalso; first | omega | contradiction | simp_all; done)
      all_goals (apply fin_bool; rfl; first | rfl | simp; done)
  have d3 : decide (o.folder = r.folder) = false := decide_eq_false hf
  have h1 := a_serve h hb o ob
  unfold serveR at h1
  by_cases h0 : hubErr h = 0
  case neg =>
    rw [if_neg h0] at h1
    unfold tupS at h1
    generalize hubErr h = E at *
    rcases hk with hk | hk
    · have d1 : (!decide (r.kind = 2)) = false := by simp [hk]
      refine acall_intro Tryz.func7 rfl _ Tryz.ntmps7 (Nat.le_of_ble_eq_true rfl) _ Tryz.results7 0 rfl rfl ?_
      repeat' (first | refine walk ?_ | (first | (apply to_call Tryz.func14 rfl rfl; intro hIsFn; refine o_callf hIsFn (hg ..) ?_; skip) | (apply to_call Tryz.func18 rfl rfl; intro hIsFn; refine o_callp hIsFn (h1 ..) ?_)) | ((first | (apply ops_split_t; rfl; rfl; exact nle rfl) | (apply ops_split_f; rfl; rfl; exact nle rfl) | (apply awp_cond; rfl)); all_goals (intro hc; have hp := hc; first | (simp at hp; done) | ((try simp at hp); first | (exfalso; omega) | skip))) | (apply awp_cond_any; rfl))
      all_goals try (exfalso; first | omega | contradiction | simp_all; done)
      all_goals (apply fin_bool; rfl; first | rfl | simp; done)
    · have d1 : (!decide (r.kind = 2)) = true := by simp [hk]
      have d2 : (!decide (r.kind = 1)) = false := by simp [hk]
      refine acall_intro Tryz.func7 rfl _ Tryz.ntmps7 (Nat.le_of_ble_eq_true rfl) _ Tryz.results7 0 rfl rfl ?_
      repeat' (first | refine walk ?_ | (first | (apply to_call Tryz.func14 rfl rfl; intro hIsFn; refine o_callf hIsFn (hg ..) ?_; skip) | (apply to_call Tryz.func18 rfl rfl; intro hIsFn; refine o_callp hIsFn (h1 ..) ?_)) | ((first | (apply ops_split_t; rfl; rfl; exact nle rfl) | (apply ops_split_f; rfl; rfl; exact nle rfl) | (apply awp_cond; rfl)); all_goals (intro hc; have hp := hc; first | (simp at hp; done) | ((try simp at hp); first | (exfalso; omega) | skip))) | (apply awp_cond_any; rfl))
      all_goals try (exfalso; first | omega | contradiction | simp_all; done)
      all_goals (apply fin_bool; rfl; first | rfl | simp; done)
  rw [if_pos h0] at h1
  have hr := hright_iff.1 h0
  have oS := (serve_right hr o).right
  have oB := serve_big hb hr ob
  have hv := other_view hr hf
  obtain ⟨va, vj⟩ := view_answer hv (r := r) (by omega)
  have h2 := t_serveW h hb hr r rb
  have h3 := t_serveW _ oB oS r rb
  rw [va] at h3
  have yS := (serve_right hr r).right
  have yB := serve_big hb hr rb
  have zS := (serve_right oS r).right
  have zB := serve_big oB oS rb
  have ha := a_sameAns _ (ans_big hb hr r)
  have h4 := a_htree _ yB r.folder
  have h5 := a_htree _ zB r.folder
  have ht : ∀ {x : Hub}, HRight x → (treeR x r.folder = treeW x r.folder) := fun hx => by unfold treeR; rw [if_pos (hright_iff.2 hx)]
  have htl : (treeW (serveW h r).1 r.folder).1.length ≤ 140737488355328 := by
    unfold treeW
    cases hj : jouAt (serveW h r).1.fols r.folder with
    | none => simp
    | some j =>
      have hJ : JRight j := (yS.each _ (jouAt_some hj).1).2
      have := hJ.now.len
      show (nowT j).length ≤ _
      omega
  rw [ht yS] at h4
  rw [ht zS, show treeW (serveW (serveW h o).1 r).1 r.folder = treeW (serveW h r).1 r.folder from by unfold treeW; rw [vj]] at h5
  generalize treeW (serveW h r).1 r.folder = TT at *
  obtain ⟨T, te⟩ := TT
  have hse := a_sameEntries T T htl htl
  rw [decide_eq_true rfl] at hse
  have d5 : decide (te = te) = true := by simp
  clear ht htl hv va vj oS oB yS yB zS zB
  generalize (serveW (serveW h o).1 r).1 = z at *
  generalize serveW h o = P at *
  obtain ⟨x, oa⟩ := P
  generalize serveW h r = Q at *
  obtain ⟨y, a⟩ := Q
  unfold tupS at h1 h2 h3
  dsimp only at *
  rcases hk with hk | hk
  · have d1 : (!decide (r.kind = 2)) = false := by simp [hk]
    refine acall_intro Tryz.func7 rfl _ Tryz.ntmps7 (Nat.le_of_ble_eq_true rfl) _ Tryz.results7 0 rfl rfl ?_
    repeat' (first | refine walk ?_ | (first | (apply to_call Tryz.func14 rfl rfl; intro hIsFn; refine o_callf hIsFn (hg ..) ?_; skip) | (apply to_call Tryz.func18 rfl rfl; intro hIsFn; refine o_callp hIsFn (h1 ..) ?_) | (apply to_call Tryz.func18 rfl rfl; intro hIsFn; refine o_callp hIsFn (h2 ..) ?_) | (apply to_call Tryz.func18 rfl rfl; intro hIsFn; refine o_callp hIsFn (h3 ..) ?_) | (apply to_call Tryz.func20 rfl rfl; intro hIsFn; refine o_callf hIsFn (ha ..) ?_; skip) | (apply to_call Tryz.func21 rfl rfl; intro hIsFn; refine o_callp hIsFn (h4 ..) ?_) | (apply to_call Tryz.func21 rfl rfl; intro hIsFn; refine o_callp hIsFn (h5 ..) ?_) | (apply to_call Tryz.func22 rfl rfl; intro hIsFn; refine o_callf hIsFn (hse ..) ?_; skip)) | ((first | (apply ops_split_t; rfl; rfl; exact nle rfl) | (apply ops_split_f; rfl; rfl; exact nle rfl) | (apply awp_cond; rfl)); all_goals (intro hc; have hp := hc; first | (simp at hp; done) | ((try simp at hp); first | (exfalso; omega) | skip))) | (apply awp_cond_any; rfl))
    all_goals try (exfalso; first | omega | contradiction | simp_all; done)
    all_goals (apply fin_bool; rfl; first | rfl | simp; done)
  · have d1 : (!decide (r.kind = 2)) = true := by simp [hk]
    have d2 : (!decide (r.kind = 1)) = false := by simp [hk]
    refine acall_intro Tryz.func7 rfl _ Tryz.ntmps7 (Nat.le_of_ble_eq_true rfl) _ Tryz.results7 0 rfl rfl ?_
    repeat' (first | refine walk ?_ | (first | (apply to_call Tryz.func14 rfl rfl; intro hIsFn; refine o_callf hIsFn (hg ..) ?_; skip) | (apply to_call Tryz.func18 rfl rfl; intro hIsFn; refine o_callp hIsFn (h1 ..) ?_) | (apply to_call Tryz.func18 rfl rfl; intro hIsFn; refine o_callp hIsFn (h2 ..) ?_) | (apply to_call Tryz.func18 rfl rfl; intro hIsFn; refine o_callp hIsFn (h3 ..) ?_) | (apply to_call Tryz.func20 rfl rfl; intro hIsFn; refine o_callf hIsFn (ha ..) ?_; skip) | (apply to_call Tryz.func21 rfl rfl; intro hIsFn; refine o_callp hIsFn (h4 ..) ?_) | (apply to_call Tryz.func21 rfl rfl; intro hIsFn; refine o_callp hIsFn (h5 ..) ?_) | (apply to_call Tryz.func22 rfl rfl; intro hIsFn; refine o_callf hIsFn (hse ..) ?_; skip)) | ((first | (apply ops_split_t; rfl; rfl; exact nle rfl) | (apply ops_split_f; rfl; rfl; exact nle rfl) | (apply awp_cond; rfl)); all_goals (intro hc; have hp := hc; first | (simp at hp; done) | ((try simp at hp); first | (exfalso; omega) | skip))) | (apply awp_cond_any; rfl))
    all_goals try (exfalso; first | omega | contradiction | simp_all; done)
    all_goals (apply fin_bool; rfl; first | rfl | simp; done)
theorem law_hgoes_all (ys : List AV) (h : TyAllW C.tab 140737488355328 [28, 40] ys) : AFn C.P 6 ys (.v (.bool true)) := by
  obtain ⟨_, _, rfl, h0, _, _, rfl, h1, rfl⟩ := h
  obtain ⟨a, rfl, ha⟩ := tyv_hub h0
  obtain ⟨b, rfl, hb⟩ := tyv_rqt h1
  exact law_hgoes a ha b hb
theorem law_htwice_all (ys : List AV) (h : TyAllW C.tab 140737488355328 [28, 40] ys) : AFn C.P 8 ys (.v (.bool true)) := by
  obtain ⟨_, _, rfl, h0, _, _, rfl, h1, rfl⟩ := h
  obtain ⟨a, rfl, ha⟩ := tyv_hub h0
  obtain ⟨b, rfl, hb⟩ := tyv_rqt h1
  exact law_htwice a ha b hb
theorem law_hapart_all (ys : List AV) (h : TyAllW C.tab 140737488355328 [28, 40, 40] ys) : AFn C.P 7 ys (.v (.bool true)) := by
  obtain ⟨_, _, rfl, h0, _, _, rfl, h1, _, _, rfl, h2, rfl⟩ := h
  obtain ⟨a, rfl, ha⟩ := tyv_hub h0
  obtain ⟨b, rfl, hb⟩ := tyv_rqt h1
  obtain ⟨c, rfl, hc⟩ := tyv_rqt h2
  exact law_hapart a ha b hb c hc
end Go.Proofs.YtiljlcgmcmjcoaaGreatDoor

/- Hubs in the abstract layer, 13: the law Denies. -/
set_option linter.unusedSimpArgs false
set_option linter.unnecessarySimpa false
set_option linter.unusedVariables false
set_option maxHeartbeats 1000000
namespace Go.Proofs.YtiljlcgmcmjcoaaGreatDoor
open Go.Ab Go.RowKit
set_option maxRecDepth 10000
attribute [local irreducible] Awp Ops OpsX Wanted Red ExOk Go.Ab.Fin ACall Rz RzL RzRows Enters ResOk RenV RenVL ArgV ArgVL
end Go.Proofs.YtiljlcgmcmjcoaaGreatDoor

/- Hubs in the abstract layer, 14: the law Uploads. -/
set_option linter.unusedSimpArgs false
set_option linter.unnecessarySimpa false
set_option linter.unusedVariables false
set_option maxHeartbeats 1000000
namespace Go.Proofs.YtiljlcgmcmjcoaaGreatDoor
open Go.Ab Go.RowKit
set_option maxRecDepth 10000
attribute [local irreducible] Awp Ops OpsX Wanted Red ExOk Go.Ab.Fin ACall Rz RzL RzRows Enters ResOk RenV RenVL ArgV ArgVL
end Go.Proofs.YtiljlcgmcmjcoaaGreatDoor
