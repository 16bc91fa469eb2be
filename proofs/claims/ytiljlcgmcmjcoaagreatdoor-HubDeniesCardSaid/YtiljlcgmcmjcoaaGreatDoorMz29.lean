import Derived.Test.YtiljlcgmcmjcoaaGreatDoorMz28
import Derived.Test.YtiljlcgmcmjcoaaGreatDoorMz12
import Derived.Test.YtiljlcgmcmjcoaaGreatDoorMz17
import Derived.Test.YtiljlcgmcmjcoaaGreatDoorMz19
import Derived.Test.YtiljlcgmcmjcoaaGreatDoorMz11
/- Hubs in the abstract layer, 11: bounds; what must be in any case. -/
set_option linter.unusedSimpArgs false
set_option linter.unnecessarySimpa false
set_option linter.unusedVariables false
set_option maxHeartbeats 1000000
namespace Go.Proofs.YtiljlcgmcmjcoaaGreatDoor
open Go.Ab Go.RowKit
set_option maxRecDepth 10000
attribute [local irreducible] Awp Ops OpsX Wanted Red ExOk Go.Ab.Fin ACall Rz RzL RzRows Enters ResOk RenV RenVL ArgV ArgVL
theorem sess_big {u : Upl} (h : upErr u = 0) : SBig u.sess := by
  obtain ⟨a, b, c, d, e⟩ := upErr_get h
  refine ⟨fun s hs => ?_, by omega⟩
  have hc := c s hs
  have h2 := sessErr_size hc
  unfold sessErr at hc
  split at hc
  · split at hc
    · rename_i hn
      split at hc
      · omega
      · have := (isName_len hn).2
        exact ⟨by omega, by omega⟩
    · omega
  · omega
theorem newJ_big : JBig newJ := ⟨⟨by simp [newJ], by simp [newJ]⟩, ⟨by simp [newJ], by simp [newJ]⟩⟩
/-- What becomes of a hub keeps its bounds. -/
theorem serve_big {h : Hub} (hb : HBig h) (hr : HRight h) {r : Rqt} (rb : RBig r) : HBig (serveW h r).1 := by
  have hR := (serve_right hr r).right
  obtain ⟨a1, a2, a3, a4⟩ := graErr_all hr.gra
  have hkeep : FBig h.fols ∧ GBig h.gras := ⟨hb.fols, hb.gras⟩
  suffices hs : FBig (serveW h r).1.fols ∧ GBig (serveW h r).1.gras from ⟨hs.1, hs.2, sess_big hR.ups⟩
  have hcom : ∀ (u : Upl) (l : List Chg), CBig l → FBig (comH h r u l).1.fols ∧ GBig (comH h r u l).1.gras := fun u l lb => by
    unfold comH
    cases hj : jouAt h.fols r.folder with
    | none => exact hkeep
    | some j =>
      obtain ⟨hm, hh⟩ := jouAt_some hj
      have hJ : JRight j := (hr.each _ hm).2
      dsimp only
      by_cases h0 : (commitW j r.key l).2.2 = 0
      · rw [if_pos h0]
        refine ⟨⟨fun s hs => ?_, by show (setJ _ _ _).length ≤ _; unfold setJ; rw [List.length_map]; exact hb.fols.len⟩, hb.gras⟩
        rcases setJ_mem hs with ⟨rfl, _⟩ | ⟨hs, _⟩
        · refine ⟨rb.folder, ?_⟩
          show JBig (commitW j r.key l).1
          rw [commitW_eq hJ]
          exact commit_big (hb.fols.each _ hm).jou lb rb.key
        · exact hb.fols.each s hs
      · rw [if_neg h0]; exact hkeep
  unfold serveW
  split
  · exact hkeep
  split
  · exact hkeep
  split
  · unfold createH
    split
    · split
      · exact hkeep
      · refine ⟨⟨fun s hs => ?_, by show (insF _ _).length ≤ _; rw [insF_len]; have := hr.len; omega⟩, setG_big hb.gras a3 (by omega) (str_lift rb.folder) (str_lift rb.who)⟩
        rcases insF_mem.1 hs with rfl | hs
        · exact ⟨rb.folder, newJ_big⟩
        · exact hb.fols.each s hs
    · exact hkeep
  split
  · unfold giveH
    split
    · exact hkeep
    · by_cases h0 : (giveR h.gras r.folder r.who r.name r.number).2 = 0
      · rw [if_pos h0]
        refine ⟨hb.fols, ?_⟩
        show GBig (giveR _ _ _ _ _).1
        rw [(giveR_get h0).2.2]
        exact setG_big hb.gras a3 (by omega) (str_lift rb.folder) (str_lift rb.name)
      · rw [if_neg h0]; exact hkeep
  split
  · unfold pageH
    split
    · exact hkeep
    · split
      · exact hkeep
      · split <;> exact hkeep
  split
  · unfold upsH
    split <;> exact hkeep
  split
  · unfold upsH
    split <;> exact hkeep
  split
  · unfold qryH
    split <;> exact hkeep
  · unfold editH
    split
    · exact hkeep
    split
    · unfold finH
      split
      · refine hcom _ _ ⟨fun c hc => ?_, by simp⟩
        rw [List.mem_singleton.1 hc]
        refine ⟨rb.name, by simp, ?_⟩
        show (finR h.ups r.who r.number h.now).2.1.length ≤ _
        unfold finR
        by_cases q1 : mineErr h.ups r.who r.number h.now = 0
        · rw [if_pos q1]
          have := mine_text q1
          split
          · simp
          · show (mineS h.ups r.who r.number h.now).text.length ≤ _; omega
        · rw [if_neg q1]; simp
      · exact hkeep
    · exact hcom _ _ rb.chs
-- What must be in any case.
def bH1 : Hub := ⟨[⟨[102], newJ⟩], [⟨[102], [97], 3⟩], ⟨[], 1, 10, 1000⟩, 0⟩
def bH2 : Hub := ⟨[⟨[102], ⟨[], 1, [⟨1, [107], [⟨2, [120], [], [49], 0⟩]⟩]⟩⟩], [⟨[102], [97], 3⟩], ⟨[], 1, 10, 1000⟩, 0⟩
def bR1 : Rqt := ⟨8, [97], [102], [], [], [], 0, 0, 0, []⟩
def bR2 : Rqt := ⟨1, [97], [102], [], [107], [], 0, 0, 0, [⟨2, [120], [], [49], 0⟩]⟩
theorem bH_big0 : HBig (newH 10 1000) := ⟨⟨nofun, by decide⟩, ⟨nofun, by decide⟩, ⟨nofun, by decide⟩⟩
theorem bR_big1 : RBig bR1 := ⟨by decide, by decide, by decide, by decide, by decide, ⟨nofun, by decide⟩⟩
theorem bR_big2 : RBig bR2 := ⟨by decide, by decide, by decide, by decide, by decide, ⟨fun c hc => by rw [List.mem_singleton.1 hc]; exact ⟨by decide, by decide, by decide⟩, by decide⟩⟩
theorem a_hubBegun : AFn C.P 14 [] (.v (.bool true)) := by
  have h1 := a_hnew 10 1000
  rw [show newR 10 1000 = (newH 10 1000, 0) from by kernel_rfl] at h1
  have r0 : HRight (newH 10 1000) := hright_iff.1 (by kernel_rfl)
  have h2 := t_serveW (newH 10 1000) bH_big0 r0 bR1 bR_big1
  have b1 := serve_big bH_big0 r0 bR_big1
  have r1 := (serve_right r0 bR1).right
  rw [show serveW (newH 10 1000) bR1 = (bH1, noAns) from by kernel_rfl] at h2 b1 r1
  have h3 := t_serveW bH1 b1 r1 bR2 bR_big2
  have b2 := serve_big b1 r1 bR_big2
  rw [show serveW bH1 bR2 = (bH2, ⟨0, 1, noPag⟩) from by kernel_rfl] at h3 b2
  have h4 := a_htree bH2 b2 [102]
  rw [show treeR bH2 [102] = ([⟨[120], false, [49], 1⟩], 0) from by kernel_rfl] at h4
  clear b1 b2 r0 r1
  unfold tupS at h2 h3
  refine acall_intro Tryz.func14 rfl _ Tryz.ntmps14 (Nat.le_of_ble_eq_true rfl) _ Tryz.results14 0 rfl rfl ?_
  repeat' (first | refine walk ?_ | (first | (refine o_fzl ?_) | (apply to_call Tryz.func12 rfl rfl; intro hIsFn; refine o_callp hIsFn (h1 ..) ?_) | (apply to_call Tryz.func18 rfl rfl; intro hIsFn; refine o_callp hIsFn (h2 ..) ?_) | (apply to_call Tryz.func18 rfl rfl; intro hIsFn; refine o_callp hIsFn (h3 ..) ?_) | (apply to_call Tryz.func21 rfl rfl; intro hIsFn; refine o_callp hIsFn (h4 ..) ?_)) | ((first | (apply ops_split_t; rfl; rfl; exact nle rfl) | (apply ops_split_f; rfl; rfl; exact nle rfl) | (apply awp_cond; rfl)); all_goals (intro hc; have hp := hc; first | (simp at hp; done) | ((try simp at hp); first | (exfalso; omega) | skip))) | (apply awp_cond_any; rfl))
  all_goals try (exfalso; simp_all; done)
  all_goals (apply fin_bool; rfl; first | rfl | simp; done)
end Go.Proofs.YtiljlcgmcmjcoaaGreatDoor

/- Hubs in the abstract layer, 12: the laws News, Goes, Twice, Apart. -/
set_option linter.unusedSimpArgs false
set_option linter.unnecessarySimpa false
set_option linter.unusedVariables false
set_option maxHeartbeats 1000000
namespace Go.Proofs.YtiljlcgmcmjcoaaGreatDoor
open Go.Ab Go.RowKit
set_option maxRecDepth 10000
attribute [local irreducible] Awp Ops OpsX Wanted Red ExOk Go.Ab.Fin ACall Rz RzL RzRows Enters ResOk RenV RenVL ArgV ArgVL
end Go.Proofs.YtiljlcgmcmjcoaaGreatDoor

/- Hubs in the abstract layer, 13: the law Denies. -/
set_option linter.unusedSimpArgs false
set_option linter.unnecessarySimpa false
set_option linter.unusedVariables false
set_option maxHeartbeats 1000000
namespace Go.Proofs.YtiljlcgmcmjcoaaGreatDoor
open Go.Ab Go.RowKit
set_option maxRecDepth 10000
attribute [local irreducible] Awp Ops OpsX Wanted Red ExOk Go.Ab.Fin ACall Rz RzL RzRows Enters ResOk RenV RenVL ArgV ArgVL
set_option maxHeartbeats 4000000 in
theorem law_hdenies (h : Hub) (hb : HBig h) (r : Rqt) (rb : RBig r) : AFn C.P 9 [hubAV h, rqtAV r] (.v (.bool true)) := by
  have hg := a_hubBegun
  have hgg := a_gbegun
  have h1 := a_serve h hb r rb
  unfold serveR at h1
  by_cases h0 : hubErr h = 0
  case neg =>
    rw [if_neg h0] at h1
    unfold tupS at h1
    generalize hubErr h = E at *
    refine acall_intro Tryz.func9 rfl _ Tryz.ntmps9 (Nat.le_of_ble_eq_true rfl) _ Tryz.results9 0 rfl rfl ?_
    repeat' (first | refine walk ?_ | (first | (apply to_call Tryz.func14 rfl rfl; intro hIsFn; refine o_callf hIsFn (hg ..) ?_; skip) | (apply to_call Tryz.func23 rfl rfl; intro hIsFn; refine o_callf hIsFn (hgg ..) ?_; skip) | (apply to_call Tryz.func18 rfl rfl; intro hIsFn; refine o_callp hIsFn (h1 ..) ?_)) | ((first | (apply ops_split_t; rfl; rfl; exact nle rfl) | (apply ops_split_f; rfl; rfl; exact nle rfl) | (apply awp_cond; rfl)); all_goals (intro hc; have hp := hc; first | (simp at hp; done) | ((try simp at hp); first | (exfalso; omega) | skip))) | (apply awp_cond_any; rfl))
    all_goals try (exfalso; first | omega | contradiction | simp_all; done)
    all_goals (apply fin_bool; rfl; first | rfl | simp; done)
  rw [if_pos h0] at h1
  have hr := hright_iff.1 h0
  by_cases k8 : r.kind = 8
  · have d8 : decide (r.kind = 8) = true := decide_eq_true k8
    unfold tupS at h1
    generalize serveW h r = P at *
    refine acall_intro Tryz.func9 rfl _ Tryz.ntmps9 (Nat.le_of_ble_eq_true rfl) _ Tryz.results9 0 rfl rfl ?_
    repeat' (first | refine walk ?_ | (first | (apply to_call Tryz.func14 rfl rfl; intro hIsFn; refine o_callf hIsFn (hg ..) ?_; skip) | (apply to_call Tryz.func23 rfl rfl; intro hIsFn; refine o_callf hIsFn (hgg ..) ?_; skip) | (apply to_call Tryz.func18 rfl rfl; intro hIsFn; refine o_callp hIsFn (h1 ..) ?_)) | ((first | (apply ops_split_t; rfl; rfl; exact nle rfl) | (apply ops_split_f; rfl; rfl; exact nle rfl) | (apply awp_cond; rfl)); all_goals (intro hc; have hp := hc; first | (simp at hp; done) | ((try simp at hp); first | (exfalso; omega) | skip))) | (apply awp_cond_any; rfl))
    all_goals try (exfalso; first | omega | contradiction | simp_all; done)
    all_goals (apply fin_bool; rfl; first | rfl | simp; done)
  have d8 : decide (r.kind = 8) = false := decide_eq_false k8
  have hS := (serve_right hr r).right
  have hB := serve_big hb hr rb
  have hden := @serve_denied h r
  have hcd := @commit_denied h r
  have hgr := hr.gra
  have hRI := a_right h.gras hb.gras r.folder r.who (str_lift rb.folder) (str_lift rb.who)
  have hVR := rightVal_eq (f := r.folder) (w := r.who) hgr
  have hRN : isName r.who = false → rightG h.gras r.folder r.who = 0 := fun e => right_name hgr (.inr e)
  have hVE : ¬ rightErr h.gras r.folder r.who = 0 → rightVal h.gras r.folder r.who = 0 := fun e => by unfold rightVal; rw [if_neg e]
  have hnm := g_isNameR r.who (str_lift rb.who)
  -- what holds of each folder
  have hF : ∀ s, s ∈ h.fols → ∃ (T : List Ent) (V E : Int), T.length ≤ 60 ∧ AFn C.P 24 [graAV h.gras, .v (str s.name), .v (str r.who)] (.tup [.v (.int .i64 V), .v (.int .i64 E)]) ∧ AFn C.P 21 [hubAV h, .v (str s.name)] (.tup [entAV T, .v (.int .i64 0)]) ∧ (¬ (E = 0 ∧ 2 ≤ V) → AFn C.P 21 [hubAV (serveW h r).1, .v (str s.name)] (.tup [entAV T, .v (.int .i64 0)])) := fun s hs => by
    have hj := jouAt_mem hr.rise hs
    have hJ : JRight s.jou := (hr.each s hs).2
    have hsm := (hb.fols.each s hs).name
    refine ⟨nowT s.jou, rightVal h.gras s.name r.who, rightErr h.gras s.name r.who, hJ.now.len, a_right h.gras hb.gras s.name r.who (str_lift hsm) (str_lift rb.who), ?_, fun hlow => ?_⟩
    · have := a_htree h hb s.name
      rw [show treeR h s.name = (nowT s.jou, 0) from by unfold treeR treeW; rw [if_pos h0, hj]] at this
      exact this
    · have hlow2 : rightG h.gras s.name r.who < 2 := by
        rw [← rightVal_eq hgr]
        by_cases he : rightErr h.gras s.name r.who = 0
        · exact Int.not_le.1 fun e => hlow ⟨he, e⟩
        · unfold rightVal; rw [if_neg he]; omega
      have := a_htree (serveW h r).1 hB s.name
      rw [show treeR (serveW h r).1 s.name = (nowT s.jou, 0) from by unfold treeR treeW; rw [if_pos (hright_iff.2 hS), serve_low k8 hlow2, hj]] at this
      exact this
  generalize rightG h.gras r.folder r.who = R at *
  have hV2 : rightVal h.gras r.folder r.who = R := hVR
  rw [hV2] at hRI hVE
  generalize rightErr h.gras r.folder r.who = RE at *
  generalize isName r.who = nm at *
  generalize serveW h r = P at *
  obtain ⟨x, a⟩ := P
  obtain ⟨ae, an, ap⟩ := a
  dsimp only at *
  unfold tupS at h1
  have hlF := hr.len
  clear hS hB hVR hV2 hr hgr rb
  obtain ⟨F, G, U, now⟩ := h
  dsimp only at *
  refine acall_intro Tryz.func9 rfl _ Tryz.ntmps9 (Nat.le_of_ble_eq_true rfl) _ Tryz.results9 0 rfl rfl ?_
  (repeat apply awp_seq); apply awp_region; (repeat' (first | apply ops_free | refine o_mv ?_ | refine o_as ?_ | refine o_ld ?_ | refine o_fa ?_ | refine o_bi ?_ | refine o_pk ?_ | refine o_ln ?_ | refine o_ia ?_ | refine o_no ?_ | refine o_ex ?_ | refine o_al ?_ | refine o_bx ?_ | refine o_sto ?_ | (first | fail) | refine r_nil ?_ | refine g_on_t ?_ | refine g_on_f ?_ | refine g_off_t ?_ | refine g_off_f ?_ | refine g_unw ?_ | refine g_yes ?_ | refine g_no_t ?_ | refine g_no_f ?_ | ((first | refine g_sp_t ?_ ?_ | refine g_sp_f ?_ ?_); all_goals (intro hc; have hp := hc; first | (simp at hp; done) | ((try simp at hp); first | (exfalso; omega) | skip))))); show Awp _ _ _ _ _
  (refine Awp.red (red_freeze 0 rfl ?_) ?_; (intro row hrow; obtain rfl := List.mem_singleton.1 hrow; rfl); refine Awp.red (red_fp 2 0 rfl rfl (Nat.le_of_ble_eq_true rfl)) ?_)
  (refine Awp.red (red_freeze 1 rfl ?_) ?_; (intro row hrow; obtain rfl := List.mem_singleton.1 hrow; rfl); refine Awp.red (red_fp 3 1 rfl rfl (Nat.le_of_ble_eq_true rfl)) ?_)
  repeat' (first | refine walk ?_ | (first | (apply to_call Tryz.func14 rfl rfl; intro hIsFn; refine o_callf hIsFn (hg ..) ?_; skip) | (apply to_call Tryz.func23 rfl rfl; intro hIsFn; refine o_callf hIsFn (hgg ..) ?_; skip) | (apply to_call Tryz.func18 rfl rfl; intro hIsFn; refine o_callp hIsFn (h1 ..) ?_) | (apply to_call Tryz.func24 rfl rfl; intro hIsFn; refine o_callp hIsFn (hRI ..) ?_)) | ((first | (apply ops_split_t; rfl; rfl; exact nle rfl) | (apply ops_split_f; rfl; rfl; exact nle rfl) | (apply awp_cond; rfl)); all_goals (intro hc; have hp := hc; first | (simp at hp; done) | ((try simp at hp); first | (exfalso; omega) | skip))) | (apply awp_cond_any; rfl))
  all_goals try (exfalso; first | omega | contradiction | simp_all; done)
  all_goals
  · (refine Awp.red (red_freeze 2 rfl ?_) ?_; (intro row hrow; obtain rfl := List.mem_singleton.1 hrow; rfl); refine Awp.red (red_fp 5 2 rfl rfl (Nat.le_of_ble_eq_true rfl)) ?_)
    (refine Awp.red (red_freeze 3 rfl ?_) ?_; (intro row hrow; obtain rfl := List.mem_singleton.1 hrow; rfl); refine Awp.red (red_fp 6 3 rfl rfl (Nat.le_of_ble_eq_true rfl)) ?_)
    refine Awp.red (red_pure (ts := [(2, .fp [Hub.row ⟨F, G, U, now⟩] 0 0), (3, .fp [r.row] 0 0), (5, .fp [x.row] 0 0), (6, .fp [Ans.row ⟨ae, an, ap⟩] 0 0), (8, .v (.int .i64 R)), (10, .v (.int .i64 ((0 : Nat) : Int)))]) ?_) ?_
    · (repeat (first | exact tsok_nil | refine p_pure ?_ | refine p_eq ?_ ?_))
      all_goals first | rfl | (rw [hVE (by assumption)]; done)
    refine awp_loop (fun n σ => ∃ i : Nat, i ≤ F.length ∧ n = F.length - i ∧ (True) ∧ σ = ⟨[(2, .fp [Hub.row ⟨F, G, U, now⟩] 0 0), (3, .fp [r.row] 0 0), (5, .fp [x.row] 0 0), (6, .fp [Ans.row ⟨ae, an, ap⟩] 0 0), (8, .v (.int .i64 R)), (10, .v (.int .i64 (i : Int)))], [], C.nh⟩) F.length ⟨0, Nat.zero_le _, rfl, trivial, rfl⟩ ?_
    rintro n σ ⟨i, hi, rfl, -, rfl⟩
    by_cases hlt : i < F.length
    · have hrw := getRow (f := Fol.row) hlt
      obtain ⟨T, V, E, hTl, hri, ht1, ht2⟩ := hF F[i] (List.getElem_mem _)
      have hse := a_sameEntries T T (by omega) (by omega)
      rw [decide_eq_true rfl] at hse
      clear hF hden hcd hRN hVE hRI
      by_cases hlow : E = 0 ∧ 2 ≤ V
      · obtain ⟨hE0, hV2⟩ := hlow
        subst hE0
        repeat' (first | refine walk ?_ | (first | (apply to_call Tryz.func24 rfl rfl; intro hIsFn; refine o_callp hIsFn (hri ..) ?_)) | ((first | (apply ops_split_t; rfl; rfl; exact nle rfl) | (apply ops_split_f; rfl; rfl; exact nle rfl) | (apply awp_cond; rfl)); all_goals (intro hc; have hp := hc; first | (simp at hp; done) | ((try simp at hp); first | (exfalso; omega) | skip))) | (apply awp_cond_any; rfl))
        all_goals try (exfalso; first | omega | contradiction)
        refine ⟨F.length - (i + 1), _, by omega, red_pure (ts := [(2, .fp [Hub.row ⟨F, G, U, now⟩] 0 0), (3, .fp [r.row] 0 0), (5, .fp [x.row] 0 0), (6, .fp [Ans.row ⟨ae, an, ap⟩] 0 0), (8, .v (.int .i64 R)), (10, .v (.int .i64 ((i + 1 : Nat) : Int)))]) ?_, i + 1, by omega, rfl, trivial, rfl⟩; ((repeat (first | exact tsok_nil | refine p_pure ?_ | refine p_eq ?_ ?_)))
      · have ht3 := ht2 hlow
        clear ht2
        repeat' (first | refine walk ?_ | (first | (apply to_call Tryz.func24 rfl rfl; intro hIsFn; refine o_callp hIsFn (hri ..) ?_) | (apply to_call Tryz.func21 rfl rfl; intro hIsFn; refine o_callp hIsFn (ht1 ..) ?_) | (apply to_call Tryz.func21 rfl rfl; intro hIsFn; refine o_callp hIsFn (ht3 ..) ?_) | (apply to_call Tryz.func22 rfl rfl; intro hIsFn; refine o_callf hIsFn (hse ..) ?_; skip)) | ((first | (apply ops_split_t; rfl; rfl; exact nle rfl) | (apply ops_split_f; rfl; rfl; exact nle rfl) | (apply awp_cond; rfl)); all_goals (intro hc; have hp := hc; first | (simp at hp; done) | ((try simp at hp); first | (exfalso; omega) | skip))) | (apply awp_cond_any; rfl))
        all_goals try (exfalso; first | omega | contradiction)
        all_goals (refine ⟨F.length - (i + 1), _, by omega, red_pure (ts := [(2, .fp [Hub.row ⟨F, G, U, now⟩] 0 0), (3, .fp [r.row] 0 0), (5, .fp [x.row] 0 0), (6, .fp [Ans.row ⟨ae, an, ap⟩] 0 0), (8, .v (.int .i64 R)), (10, .v (.int .i64 ((i + 1 : Nat) : Int)))]) ?_, i + 1, by omega, rfl, trivial, rfl⟩; ((repeat (first | exact tsok_nil | refine p_pure ?_ | refine p_eq ?_ ?_))))
    obtain rfl : i = F.length := by omega
    clear hF hRI
    cases nm with
    | true =>
      have hden : r.kind = 1 ∨ r.kind = 2 ∨ r.kind = 3 → R = 0 → ae = 9 := fun a b => by have := hden a b; simpa using this
      have hcd := fun a => hcd a rfl
      repeat' (first | refine walk ?_ | (first | (apply to_call Tryz.func25 rfl rfl; intro hIsFn; refine o_callf hIsFn (hnm ..) ?_; skip)) | ((first | (apply ops_split_t; rfl; rfl; exact nle rfl) | (apply ops_split_f; rfl; rfl; exact nle rfl) | (apply awp_cond; rfl)); all_goals (intro hc; have hp := hc; first | (simp at hp; done) | ((try simp at hp); first | (exfalso; omega) | skip))) | (apply awp_cond_any; rfl))
      all_goals try (exfalso; first | omega | contradiction)
      all_goals (apply fin_bool; rfl; first | rfl | (simp; omega) | simp; done)
    | false =>
      have hR0 := hRN rfl
      have hden : r.kind = 1 ∨ r.kind = 2 ∨ r.kind = 3 → R = 0 → ae = 1 := fun a b => by have := hden a b; simpa using this
      repeat' (first | refine walk ?_ | (first | (apply to_call Tryz.func25 rfl rfl; intro hIsFn; refine o_callf hIsFn (hnm ..) ?_; skip)) | ((first | (apply ops_split_t; rfl; rfl; exact nle rfl) | (apply ops_split_f; rfl; rfl; exact nle rfl) | (apply awp_cond; rfl)); all_goals (intro hc; have hp := hc; first | (simp at hp; done) | ((try simp at hp); first | (exfalso; omega) | skip))) | (apply awp_cond_any; rfl))
      all_goals try (exfalso; first | omega | contradiction)
      all_goals (apply fin_bool; rfl; first | rfl | (simp; omega) | simp; done)
theorem law_hdenies_all (ys : List AV) (h : TyAllW C.tab 140737488355328 [28, 40] ys) : AFn C.P 9 ys (.v (.bool true)) := by
  obtain ⟨_, _, rfl, h0, _, _, rfl, h1, rfl⟩ := h
  obtain ⟨a, rfl, ha⟩ := tyv_hub h0
  obtain ⟨b, rfl, hb⟩ := tyv_rqt h1
  exact law_hdenies a ha b hb
end Go.Proofs.YtiljlcgmcmjcoaaGreatDoor

/- Hubs in the abstract layer, 14: the law Uploads. -/
set_option linter.unusedSimpArgs false
set_option linter.unnecessarySimpa false
set_option linter.unusedVariables false
set_option maxHeartbeats 1000000
namespace Go.Proofs.YtiljlcgmcmjcoaaGreatDoor
open Go.Ab Go.RowKit
set_option maxRecDepth 10000
attribute [local irreducible] Awp Ops OpsX Wanted Red ExOk Go.Ab.Fin ACall Rz RzL RzRows Enters ResOk RenV RenVL ArgV ArgVL
end Go.Proofs.YtiljlcgmcmjcoaaGreatDoor
