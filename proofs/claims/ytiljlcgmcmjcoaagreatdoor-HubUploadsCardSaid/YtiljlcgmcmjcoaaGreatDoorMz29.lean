import Derived.Test.YtiljlcgmcmjcoaaGreatDoorMz28
import Derived.Test.YtiljlcgmcmjcoaaGreatDoorMz12
import Derived.Test.YtiljlcgmcmjcoaaGreatDoorMz17
import Derived.Test.YtiljlcgmcmjcoaaGreatDoorMz19
import Derived.Test.YtiljlcgmcmjcoaaGreatDoorMz11
/- Hubs in the abstract layer, 11: bounds; what must be in any case. -/
set_option linter.unusedSimpArgs false
set_option linter.unnecessarySimpa false
set_option linter.unusedVariables false
set_option maxHeartbeats 1000000
namespace Go.Proofs.YtiljlcgmcmjcoaaGreatDoor
open Go.Ab Go.RowKit
set_option maxRecDepth 10000
attribute [local irreducible] Awp Ops OpsX Wanted Red ExOk Go.Ab.Fin ACall Rz RzL RzRows Enters ResOk RenV RenVL ArgV ArgVL
theorem sess_big {u : Upl} (h : upErr u = 0) : SBig u.sess := by
  obtain ⟨a, b, c, d, e⟩ := upErr_get h
  refine ⟨fun s hs => ?_, by omega⟩
  have hc := c s hs
  have h2 := sessErr_size hc
  unfold sessErr at hc
  split at hc
  · split at hc
    · rename_i hn
      split at hc
      · omega
      · have := (isName_len hn).2
        exact ⟨by omega, by omega⟩
    · omega
  · omega
theorem newJ_big : JBig newJ := ⟨⟨by simp [newJ], by simp [newJ]⟩, ⟨by simp [newJ], by simp [newJ]⟩⟩
/-- What becomes of a hub keeps its bounds. -/
theorem serve_big {h : Hub} (hb : HBig h) (hr : HRight h) {r : Rqt} (rb : RBig r) : HBig (serveW h r).1 := by
  have hR := (serve_right hr r).right
  obtain ⟨a1, a2, a3, a4⟩ := graErr_all hr.gra
  have hkeep : FBig h.fols ∧ GBig h.gras := ⟨hb.fols, hb.gras⟩
  suffices hs : FBig (serveW h r).1.fols ∧ GBig (serveW h r).1.gras from ⟨hs.1, hs.2, sess_big hR.ups⟩
  have hcom : ∀ (u : Upl) (l : List Chg), CBig l → FBig (comH h r u l).1.fols ∧ GBig (comH h r u l).1.gras := fun u l lb => by
    unfold comH
    cases hj : jouAt h.fols r.folder with
    | none => exact hkeep
    | some j =>
      obtain ⟨hm, hh⟩ := jouAt_some hj
      have hJ : JRight j := (hr.each _ hm).2
      dsimp only
      by_cases h0 : (commitW j r.key l).2.2 = 0
      · rw [if_pos h0]
        refine ⟨⟨fun s hs => ?_, by show (setJ _ _ _).length ≤ _; unfold setJ; rw [List.length_map]; exact hb.fols.len⟩, hb.gras⟩
        rcases setJ_mem hs with ⟨rfl, _⟩ | ⟨hs, _⟩
        · refine ⟨rb.folder, ?_⟩
          show JBig (commitW j r.key l).1
          rw [commitW_eq hJ]
          exact commit_big (hb.fols.each _ hm).jou lb rb.key
        · exact hb.fols.each s hs
      · rw [if_neg h0]; exact hkeep
  unfold serveW
  split
  · exact hkeep
  split
  · exact hkeep
  split
  · unfold createH
    split
    · split
      · exact hkeep
      · refine ⟨⟨fun s hs => ?_, by show (insF _ _).length ≤ _; rw [insF_len]; have := hr.len; omega⟩, setG_big hb.gras a3 (by omega) (str_lift rb.folder) (str_lift rb.who)⟩
        rcases insF_mem.1 hs with rfl | hs
        · exact ⟨rb.folder, newJ_big⟩
        · exact hb.fols.each s hs
    · exact hkeep
  split
  · unfold giveH
    split
    · exact hkeep
    · by_cases h0 : (giveR h.gras r.folder r.who r.name r.number).2 = 0
      · rw [if_pos h0]
        refine ⟨hb.fols, ?_⟩
        show GBig (giveR _ _ _ _ _).1
        rw [(giveR_get h0).2.2]
        exact setG_big hb.gras a3 (by omega) (str_lift rb.folder) (str_lift rb.name)
      · rw [if_neg h0]; exact hkeep
  split
  · unfold pageH
    split
    · exact hkeep
    · split
      · exact hkeep
      · split <;> exact hkeep
  split
  · unfold upsH
    split <;> exact hkeep
  split
  · unfold upsH
    split <;> exact hkeep
  split
  · unfold qryH
    split <;> exact hkeep
  · unfold editH
    split
    · exact hkeep
    split
    · unfold finH
      split
      · refine hcom _ _ ⟨fun c hc => ?_, by simp⟩
        rw [List.mem_singleton.1 hc]
        refine ⟨rb.name, by simp, ?_⟩
        show (finR h.ups r.who r.number h.now).2.1.length ≤ _
        unfold finR
        by_cases q1 : mineErr h.ups r.who r.number h.now = 0
        · rw [if_pos q1]
          have := mine_text q1
          split
          · simp
          · show (mineS h.ups r.who r.number h.now).text.length ≤ _; omega
        · rw [if_neg q1]; simp
      · exact hkeep
    · exact hcom _ _ rb.chs
-- What must be in any case.
def bH1 : Hub := ⟨[⟨[102], newJ⟩], [⟨[102], [97], 3⟩], ⟨[], 1, 10, 1000⟩, 0⟩
def bH2 : Hub := ⟨[⟨[102], ⟨[], 1, [⟨1, [107], [⟨2, [120], [], [49], 0⟩]⟩]⟩⟩], [⟨[102], [97], 3⟩], ⟨[], 1, 10, 1000⟩, 0⟩
def bR1 : Rqt := ⟨8, [97], [102], [], [], [], 0, 0, 0, []⟩
def bR2 : Rqt := ⟨1, [97], [102], [], [107], [], 0, 0, 0, [⟨2, [120], [], [49], 0⟩]⟩
theorem bH_big0 : HBig (newH 10 1000) := ⟨⟨nofun, by decide⟩, ⟨nofun, by decide⟩, ⟨nofun, by decide⟩⟩
theorem bR_big1 : RBig bR1 := ⟨by decide, by decide, by decide, by decide, by decide, ⟨nofun, by decide⟩⟩
theorem bR_big2 : RBig bR2 := ⟨by decide, by decide, by decide, by decide, by decide, ⟨fun c hc => by rw [List.mem_singleton.1 hc]; exact ⟨by decide, by decide, by decide⟩, by decide⟩⟩
theorem a_hubBegun : AFn C.P 14 [] (.v (.bool true)) := by
  have h1 := a_hnew 10 1000
  rw [show newR 10 1000 = (newH 10 1000, 0) from by kernel_rfl] at h1
  have r0 : HRight (newH 10 1000) := hright_iff.1 (by kernel_rfl)
  have h2 := t_serveW (newH 10 1000) bH_big0 r0 bR1 bR_big1
  have b1 := serve_big bH_big0 r0 bR_big1
  have r1 := (serve_right r0 bR1).right
  rw [show serveW (newH 10 1000) bR1 = (bH1, noAns) from by kernel_rfl] at h2 b1 r1
  have h3 := t_serveW bH1 b1 r1 bR2 bR_big2
  have b2 := serve_big b1 r1 bR_big2
  rw [show serveW bH1 bR2 = (bH2, ⟨0, 1, noPag⟩) from by kernel_rfl] at h3 b2
  have h4 := a_htree bH2 b2 [102]
  rw [show treeR bH2 [102] = ([⟨[120], false, [49], 1⟩], 0) from by kernel_rfl] at h4
  clear b1 b2 r0 r1
  unfold tupS at h2 h3
  refine acall_intro Tryz.func14 rfl _ Tryz.ntmps14 (Nat.le_of_ble_eq_true rfl) _ Tryz.results14 0 rfl rfl ?_
  repeat' (first | refine walk ?_ | (first | (refine o_fzl ?_) | (apply to_call Tryz.func12 rfl rfl; intro hIsFn; refine o_callp hIsFn (h1 ..) ?_) | (apply to_call Tryz.func18 rfl rfl; intro hIsFn; refine o_callp hIsFn (h2 ..) ?_) | (apply to_call Tryz.func18 rfl rfl; intro hIsFn; refine o_callp hIsFn (h3 ..) ?_) | (apply to_call Tryz.func21 rfl rfl; intro hIsFn; refine o_callp hIsFn (h4 ..) ?_)) | ((first | (apply ops_split_t; rfl; rfl; exact nle rfl) | (apply ops_split_f; rfl; rfl; exact nle rfl) | (apply awp_cond; rfl)); all_goals (intro hc; have hp := hc; first | (simp at hp; done) | ((try simp at hp); first | (exfalso; omega) | skip))) | (apply awp_cond_any; rfl))
  all_goals try (exfalso; simp_all; done)
  all_goals (apply fin_bool; rfl; first | rfl | simp; done)
end Go.Proofs.YtiljlcgmcmjcoaaGreatDoor

/- Hubs in the abstract layer, 12: the laws News, Goes, Twice, Apart. -/
set_option linter.unusedSimpArgs false
set_option linter.unnecessarySimpa false
set_option linter.unusedVariables false
set_option maxHeartbeats 1000000
namespace Go.Proofs.YtiljlcgmcmjcoaaGreatDoor
open Go.Ab Go.RowKit
set_option maxRecDepth 10000
attribute [local irreducible] Awp Ops OpsX Wanted Red ExOk Go.Ab.Fin ACall Rz RzL RzRows Enters ResOk RenV RenVL ArgV ArgVL
end Go.Proofs.YtiljlcgmcmjcoaaGreatDoor

/- Hubs in the abstract layer, 13: the law Denies. -/
set_option linter.unusedSimpArgs false
set_option linter.unnecessarySimpa false
set_option linter.unusedVariables false
set_option maxHeartbeats 1000000
namespace Go.Proofs.YtiljlcgmcmjcoaaGreatDoor
open Go.Ab Go.RowKit
set_option maxRecDepth 10000
attribute [local irreducible] Awp Ops OpsX Wanted Red ExOk Go.Ab.Fin ACall Rz RzL RzRows Enters ResOk RenV RenVL ArgV ArgVL
end Go.Proofs.YtiljlcgmcmjcoaaGreatDoor

/- Hubs in the abstract layer, 14: the law Uploads. -/
set_option linter.unusedSimpArgs false
set_option linter.unnecessarySimpa false
set_option linter.unusedVariables false
set_option maxHeartbeats 1000000
namespace Go.Proofs.YtiljlcgmcmjcoaaGreatDoor
open Go.Ab Go.RowKit
set_option maxRecDepth 10000
attribute [local irreducible] Awp Ops OpsX Wanted Red ExOk Go.Ab.Fin ACall Rz RzL RzRows Enters ResOk RenV RenVL ArgV ArgVL
def uq0 (who text : Str) : Rqt := ⟨4, who, [], [], [], [], text.length, 0, 0, []⟩
def uq1 (who text : Str) (n : Int) : Rqt := ⟨5, who, [], [], [], text.take (text.length / 2), n, 0, 0, []⟩
def uq2 (who text : Str) (n : Int) : Rqt := ⟨5, who, [], [], [], (text.take text.length).drop (text.length / 2), n, ((text.length / 2 : Nat) : Int), 0, []⟩
def uq3 (who folder name key : Str) (n : Int) : Rqt := ⟨7, who, folder, name, key, [], n, 0, -1, []⟩
def uq4 (who : Str) (n : Int) : Rqt := ⟨6, who, [], [], [], [], n, 0, 0, []⟩
theorem up_run {h : Hub} (hr : HRight h) {who text : Str} (he : (serveW h (uq0 who text)).2.err = 0) : ∃ n h1 h2 h3 A till,
    serveW h (uq0 who text) = (h1, ⟨0, n, noPag⟩) ∧ serveW h1 (uq1 who text n) = (h2, ⟨0, ((text.take (text.length / 2)).length : Int), noPag⟩) ∧ serveW h2 (uq2 who text n) = (h3, ⟨0, (text.length : Int), noPag⟩) ∧
    h3.fols = h.fols ∧ h3.now = h.now ∧ UpSt h3.ups A n who text (text.length : Int) till h.now := by
  have hnow := within_iff.1 hr.now
  have e0 := serve_open (h := h) (r := uq0 who text) rfl
  by_cases hn : isName who = false
  · rw [show isName (uq0 who text).who = false from hn, if_pos rfl] at e0
    rw [e0] at he; exact absurd he (show ¬ ((1 : Int) = 0) from by decide)
  rw [if_neg (show ¬ isName (uq0 who text).who = false from hn)] at e0
  unfold upsH opnR at e0
  by_cases ho : openErr h.ups (uq0 who text).who (uq0 who text).number h.now = 0
  case neg =>
    rw [if_neg ho] at e0
    dsimp only at e0
    rw [if_neg ho] at e0
    rw [e0] at he; exact absurd he ho
  rw [if_pos ho] at e0
  dsimp only at e0
  rw [if_pos rfl] at e0
  have s1 : UpSt (openU h.ups who (text.length : Int) h.now) (sweptL h.ups.sess h.now) h.ups.next who [] (text.length : Int) (h.now + h.ups.lasts) h.now := upst_open ho hnow
  obtain ⟨u2, a2, s2, l2⟩ := upst_app s1 (X := text.take (text.length / 2)) (by simp; omega)
  obtain ⟨u3, a3, s3, l3⟩ := upst_app s2 (X := (text.take text.length).drop (text.length / 2)) (by simp; omega)
  have hcat : ([] ++ text.take (text.length / 2)) ++ (text.take text.length).drop (text.length / 2) = text := by
    rw [List.nil_append, List.take_length, List.take_append_drop]
  rw [hcat] at a3 s3
  refine ⟨h.ups.next, { h with ups := openU h.ups who (text.length : Int) h.now }, { h with ups := u2 }, { h with ups := u3 }, _, _, e0, ?_, ?_, rfl, rfl, s3⟩
  · have e1 := serve_append (h := { h with ups := openU h.ups who (text.length : Int) h.now }) (r := uq1 who text h.ups.next) rfl
    rw [if_neg (show ¬ isName (uq1 who text h.ups.next).who = false from hn)] at e1
    rw [e1]
    have a2 : appR (openU h.ups who (text.length : Int) h.now) who h.ups.next 0 (text.take (text.length / 2)) h.now = (u2, (([] ++ text.take (text.length / 2)).length : Int), 0) := a2
    show upsH _ (appR (openU h.ups who (text.length : Int) h.now) who h.ups.next 0 (text.take (text.length / 2)) h.now) = _
    rw [a2]
    rfl
  · have e1 := serve_append (h := { h with ups := u2 }) (r := uq2 who text h.ups.next) rfl
    rw [if_neg (show ¬ isName (uq2 who text h.ups.next).who = false from hn)] at e1
    rw [e1]
    have hlen : (([] ++ text.take (text.length / 2)).length : Int) = ((text.length / 2 : Nat) : Int) := by simp; omega
    rw [hlen] at a3
    show upsH _ (appR u2 who h.ups.next ((text.length / 2 : Nat) : Int) ((text.take text.length).drop (text.length / 2)) h.now) = _
    rw [a3]
    rfl
theorem up_query {h : Hub} {A : List Sess} {n till : Int} {who T : Str} {size : Int} (hs : UpSt h.ups A n who T size till h.now) : serveW h (uq4 who n) = (h, ⟨0, (T.length : Int), noPag⟩) := by
  rw [serve_query rfl, if_neg (by rw [show isName (uq4 who n).who = true from hs.name]; decide)]
  unfold qryH
  rw [show qryR h.ups (uq4 who n).who (uq4 who n).number h.now = ((T.length : Int), 0) from upst_qry hs]
  rfl
set_option maxHeartbeats 4000000 in
theorem law_huploads (h : Hub) (hb : HBig h) (who folder name text key : Str) (b1 : who.length ≤ 140737488355328) (b2 : folder.length ≤ 140737488355328) (b3 : name.length ≤ 140737488355328) (b4 : text.length ≤ 140737488355328) (b5 : key.length ≤ 140737488355328) :
    AFn C.P 11 [hubAV h, .v (str who), .v (str folder), .v (str name), .v (str text), .v (str key)] (.v (.bool true)) := by
  have hg := a_hubBegun
  by_cases h300 : 300 < text.length
  · refine acall_intro Tryz.func11 rfl _ Tryz.ntmps11 (Nat.le_of_ble_eq_true rfl) _ Tryz.results11 0 rfl rfl ?_
    repeat' (first | refine walk ?_ | (first | (apply to_call Tryz.func14 rfl rfl; intro hIsFn; refine o_callf hIsFn (hg ..) ?_; skip)) | ((first | (apply ops_split_t; rfl; rfl; exact nle rfl) | (apply ops_split_f; rfl; rfl; exact nle rfl) | (apply awp_cond; rfl)); all_goals (intro hc; have hp := hc; first | (simp at hp; done) | ((try simp at hp); first | (exfalso; omega) | skip))) | (apply awp_cond_any; rfl))
    all_goals try (exfalso; first | omega | contradiction | simp_all; done)
    all_goals (apply fin_bool; rfl; first | rfl | simp; done)
  have rb0 : RBig (uq0 who text) := ⟨b1, Nat.zero_le _, Nat.zero_le _, Nat.zero_le _, Nat.zero_le _, ⟨nofun, Nat.zero_le _⟩⟩
  have h1 := a_serve h hb _ rb0
  unfold serveR at h1
  by_cases h0 : hubErr h = 0
  case neg =>
    rw [if_neg h0] at h1
    unfold tupS at h1
    generalize hubErr h = E at *
    refine acall_intro Tryz.func11 rfl _ Tryz.ntmps11 (Nat.le_of_ble_eq_true rfl) _ Tryz.results11 0 rfl rfl ?_
    repeat' (first | refine walk ?_ | (first | (apply to_call Tryz.func14 rfl rfl; intro hIsFn; refine o_callf hIsFn (hg ..) ?_; skip) | (apply to_call Tryz.func18 rfl rfl; intro hIsFn; refine o_callp hIsFn (h1 ..) ?_)) | ((first | (apply ops_split_t; rfl; rfl; exact nle rfl) | (apply ops_split_f; rfl; rfl; exact nle rfl) | (apply awp_cond; rfl)); all_goals (intro hc; have hp := hc; first | (simp at hp; done) | ((try simp at hp); first | (exfalso; omega) | skip))) | (apply awp_cond_any; rfl))
    all_goals try (exfalso; first | omega | contradiction | simp_all; done)
    all_goals (apply fin_bool; rfl; first | rfl | simp; done)
  rw [if_pos h0] at h1
  have hr := hright_iff.1 h0
  by_cases he : (serveW h (uq0 who text)).2.err = 0
  case neg =>
    unfold tupS at h1
    generalize serveW h (uq0 who text) = P at *
    obtain ⟨x, ⟨ae, an, ap⟩⟩ := P
    dsimp only at *
    have d0 : (!decide (ae = 0)) = true := by simp [he]
    refine acall_intro Tryz.func11 rfl _ Tryz.ntmps11 (Nat.le_of_ble_eq_true rfl) _ Tryz.results11 0 rfl rfl ?_
    repeat' (first | refine walk ?_ | (first | (apply to_call Tryz.func14 rfl rfl; intro hIsFn; refine o_callf hIsFn (hg ..) ?_; skip) | (apply to_call Tryz.func18 rfl rfl; intro hIsFn; refine o_callp hIsFn (h1 ..) ?_)) | ((first | (apply ops_split_t; rfl; rfl; exact nle rfl) | (apply ops_split_f; rfl; rfl; exact nle rfl) | (apply awp_cond; rfl)); all_goals (intro hc; have hp := hc; first | (simp at hp; done) | ((try simp at hp); first | (exfalso; omega) | skip))) | (apply awp_cond_any; rfl))
    all_goals try (exfalso; first | omega | contradiction | simp_all; done)
    all_goals (apply fin_bool; rfl; first | rfl | simp; done)
  obtain ⟨nn, h1', h2', h3', A, till, e1, e2, e3, hfo, hno, hst⟩ := up_run hr he
  have rb1 : RBig (uq1 who text nn) := ⟨b1, Nat.zero_le _, Nat.zero_le _, Nat.zero_le _, by show (text.take _).length ≤ _; simp; omega, ⟨nofun, Nat.zero_le _⟩⟩
  have rb2 : RBig (uq2 who text nn) := ⟨b1, Nat.zero_le _, Nat.zero_le _, Nat.zero_le _, by show ((text.take _).drop _).length ≤ _; simp; omega, ⟨nofun, Nat.zero_le _⟩⟩
  have rb3 : RBig (uq3 who folder name key nn) := ⟨b1, b2, b3, b5, Nat.zero_le _, ⟨nofun, Nat.zero_le _⟩⟩
  have rb4 : RBig (uq4 who nn) := ⟨b1, Nat.zero_le _, Nat.zero_le _, Nat.zero_le _, Nat.zero_le _, ⟨nofun, Nat.zero_le _⟩⟩
  have R1 := (serve_right hr (uq0 who text)).right
  have B1 := serve_big hb hr rb0
  rw [e1] at h1 R1 B1
  have k2 := t_serveW h1' B1 R1 _ rb1
  have R2 := (serve_right R1 (uq1 who text nn)).right
  have B2 := serve_big B1 R1 rb1
  rw [e2] at k2 R2 B2
  have k3 := t_serveW h2' B2 R2 _ rb2
  have R3 := (serve_right R2 (uq2 who text nn)).right
  have B3 := serve_big B2 R2 rb2
  rw [e3] at k3 R3 B3
  have k4 := t_serveW h3' B3 R3 _ rb3
  have R4 := (serve_right R3 (uq3 who folder name key nn))
  have B4 := serve_big B3 R3 rb3
  have k5 := t_serveW h3' B3 R3 _ rb4
  rw [← hno] at hst
  rw [up_query hst] at k5
  obtain ⟨u', hfin⟩ := upst_fin hst
  have hfc := fun hk2 he2 => fin_commit (r := uq3 who folder name key nn) R3 rfl hfin rfl hk2 he2
  have ht := a_htree (serveW h3' (uq3 who folder name key nn)).1 B4 folder
  have hfl := hr.len
  have hcl : ∀ s, s ∈ h.fols → s.jou.coms.length ≤ 30 := fun s hs => (hr.each s hs).2.len
  rw [hfo] at hfc
  clear rb0 rb1 rb2 rb3 rb4 R1 R2 R3 B1 B2 B3 e1 e2 e3 he hr hb hst hfin hfo hno h0
  unfold tupS at h1 k2 k3 k4 k5
  have q300 : decide (300 < (text.length : Int)) = false := decide_eq_false (by omega)
  have q2 : (!decide ((text.length : Int) = (text.length : Int))) = false := by simp
  generalize hV : serveW h3' (uq3 who folder name key nn) = V at *
  obtain ⟨v, ⟨de, dn, dp⟩⟩ := V
  dsimp only at *
  obtain ⟨F, G, U, now⟩ := h
  dsimp only at *
  refine acall_intro Tryz.func11 rfl _ Tryz.ntmps11 (Nat.le_of_ble_eq_true rfl) _ Tryz.results11 0 rfl rfl ?_
  (repeat apply awp_seq); apply awp_region; (repeat' (first | apply ops_free | refine o_mv ?_ | refine o_as ?_ | refine o_ld ?_ | refine o_fa ?_ | refine o_bi ?_ | refine o_pk ?_ | refine o_ln ?_ | refine o_ia ?_ | refine o_no ?_ | refine o_ex ?_ | refine o_bu ?_ | refine o_al ?_ | refine o_bx ?_ | refine o_sto ?_ | (first | fail) | refine r_nil ?_ | refine g_on_t ?_ | refine g_on_f ?_ | refine g_off_t ?_ | refine g_off_f ?_ | refine g_unw ?_ | refine g_yes ?_ | refine g_no_t ?_ | refine g_no_f ?_ | ((first | refine g_sp_t ?_ ?_ | refine g_sp_f ?_ ?_); all_goals (intro hc; have hp := hc; first | (simp at hp; done) | ((try simp at hp); first | (exfalso; omega) | skip))))); show Awp _ _ _ _ _
  (refine Awp.red (red_freeze 0 rfl ?_) ?_; (intro row hrow; obtain rfl := List.mem_singleton.1 hrow; rfl); refine Awp.red (red_fp 6 0 rfl rfl (Nat.le_of_ble_eq_true rfl)) ?_)
  repeat' (first | refine walk ?_ | (first | (apply to_call Tryz.func14 rfl rfl; intro hIsFn; refine o_callf hIsFn (hg ..) ?_; skip) | (apply to_call Tryz.func18 rfl rfl; intro hIsFn; refine o_callp hIsFn (h1 ..) ?_) | (apply opsx_val; apply ex_quo (b := 2); rfl; rfl; decide; omega; exact nle rfl) | (refine o_sls ?_) | (apply to_call Tryz.func18 rfl rfl; intro hIsFn; refine o_callp hIsFn (k2 ..) ?_) | (apply to_call Tryz.func18 rfl rfl; intro hIsFn; refine o_callp hIsFn (k3 ..) ?_)) | ((first | (apply ops_split_t; rfl; rfl; exact nle rfl) | (apply ops_split_f; rfl; rfl; exact nle rfl) | (apply awp_cond; rfl)); all_goals (intro hc; have hp := hc; first | (simp at hp; done) | ((try simp at hp); first | (exfalso; omega) | skip))) | (apply awp_cond_any; rfl))
  all_goals try (exfalso; first | omega | contradiction | simp_all; done)
  (refine Awp.red (red_freeze 2 rfl ?_) ?_; (intro row hrow; obtain rfl := List.mem_singleton.1 hrow; rfl); refine Awp.red (red_fp 14 2 rfl rfl (Nat.le_of_ble_eq_true rfl)) ?_)
  (refine Awp.red (red_freeze 5 rfl ?_) ?_; (intro row hrow; obtain rfl := List.mem_singleton.1 hrow; rfl); refine Awp.red (red_fp 19 5 rfl rfl (Nat.le_of_ble_eq_true rfl)) ?_)
  refine Awp.red (red_pure (ts := [(1, .v (str who)), (2, .v (str folder)), (3, .v (str name)), (4, .v (str text)), (5, .v (str key)), (6, .fp [Hub.row ⟨F, G, U, now⟩] 0 0), (14, .fp [Ans.row ⟨0, nn, noPag⟩] 0 0), (19, .fp [h3'.row] 0 0), (22, .v (.int .i64 ((0 : Nat) : Int)))]) ?_) ?_
  · (repeat (first | exact tsok_nil | refine p_pure ?_ | refine p_eq ?_ ?_))
    all_goals first | rfl | trace_state
  clear h1 k2 k3 hg
  refine awp_loop (fun n σ => ∃ i : Nat, i ≤ F.length ∧ n = F.length - i ∧ (∀ s, s ∈ F.take i → ∀ c, c ∈ s.jou.coms → ¬ c.key = key) ∧ σ = ⟨[(1, .v (str who)), (2, .v (str folder)), (3, .v (str name)), (4, .v (str text)), (5, .v (str key)), (6, .fp [Hub.row ⟨F, G, U, now⟩] 0 0), (14, .fp [Ans.row ⟨0, nn, noPag⟩] 0 0), (19, .fp [h3'.row] 0 0), (22, .v (.int .i64 (i : Int)))], [], C.nh⟩) F.length ⟨0, Nat.zero_le _, rfl, (by simp), rfl⟩ ?_
  rintro n1 σ ⟨i, hi, rfl, hsofar, rfl⟩
  by_cases hlt : i < F.length
  · have hrw := getRow (f := Fol.row) hlt
    have hci := hcl F[i] (List.getElem_mem _)
    clear k4 k5 ht hfc R4 B4
    repeat' (first | refine walk ?_ | (first | fail) | ((first | (apply ops_split_t; rfl; rfl; exact nle rfl) | (apply ops_split_f; rfl; rfl; exact nle rfl) | (apply awp_cond; rfl)); all_goals (intro hc; have hp := hc; first | (simp at hp; done) | ((try simp at hp); first | (exfalso; omega) | skip))) | (apply awp_cond_any; rfl))
    all_goals try (exfalso; first | omega | contradiction)
    (refine Awp.red (red_freeze 0 rfl ?_) ?_; (intro row hrow; obtain rfl := List.mem_singleton.1 hrow; rfl); refine Awp.red (red_fp 23 0 rfl rfl (Nat.le_of_ble_eq_true rfl)) ?_)
    refine Awp.red (red_pure (ts := [(1, .v (str who)), (2, .v (str folder)), (3, .v (str name)), (4, .v (str text)), (5, .v (str key)), (6, .fp [Hub.row ⟨F, G, U, now⟩] 0 0), (14, .fp [Ans.row ⟨0, nn, noPag⟩] 0 0), (19, .fp [h3'.row] 0 0), (22, .v (.int .i64 (i : Int))), (23, .fp [F[i].jou.row] 0 0), (24, .v (.int .i64 ((0 : Nat) : Int)))]) ?_) ?_
    · (repeat (first | exact tsok_nil | refine p_pure ?_ | refine p_eq ?_ ?_))
      all_goals first | rfl | trace_state
    generalize hcs : F[i].jou.coms = cs at *
    refine awp_loop (fun n1 σ => ∃ jj : Nat, jj ≤ cs.length ∧ n1 = cs.length - jj ∧ (∀ c, c ∈ cs.take jj → ¬ c.key = key) ∧ σ = ⟨[(1, .v (str who)), (2, .v (str folder)), (3, .v (str name)), (4, .v (str text)), (5, .v (str key)), (6, .fp [Hub.row ⟨F, G, U, now⟩] 0 0), (14, .fp [Ans.row ⟨0, nn, noPag⟩] 0 0), (19, .fp [h3'.row] 0 0), (22, .v (.int .i64 (i : Int))), (23, .fp [F[i].jou.row] 0 0), (24, .v (.int .i64 (jj : Int)))], [], C.nh⟩) cs.length ⟨0, Nat.zero_le _, rfl, by simp, rfl⟩ ?_
    rintro n2 σ ⟨jj, hj, rfl, hsf, rfl⟩
    have hjr : F[i].jou.row = [entAV F[i].jou.base, .v (.int .i64 F[i].jou.first), comAV cs] := by rw [← hcs]; rfl
    by_cases hjl : jj < cs.length
    · have hrw2 := getRow (f := Com.row) hjl
      rw [hjr]
      by_cases hke : cs[jj].key = key
      · have dke : decide (cs[jj].key = key) = true := decide_eq_true hke
        repeat' (first | refine walk ?_ | (first | fail) | ((first | (apply ops_split_t; rfl; rfl; exact nle rfl) | (apply ops_split_f; rfl; rfl; exact nle rfl) | (apply awp_cond; rfl)); all_goals (intro hc; have hp := hc; first | (simp at hp; done) | ((try simp at hp); first | (exfalso; omega) | skip))) | (apply awp_cond_any; rfl))
        all_goals try (exfalso; first | omega | contradiction)
        all_goals ((refine f_pure (rs := [.tmp 12]) ?_; (repeat' (first | exact rzl_nil | apply rzl_cons | exact rz_pure rfl | exact rz_ex | exact z_os | apply rz_agg | apply rz_tup | apply rz_clo | apply rz_int | apply rz_bool | apply rz_str | refine z_eq ?_ | apply rz_sl)); all_goals rfl))
      · have dke : decide (cs[jj].key = key) = false := decide_eq_false hke
        repeat' (first | refine walk ?_ | (first | fail) | ((first | (apply ops_split_t; rfl; rfl; exact nle rfl) | (apply ops_split_f; rfl; rfl; exact nle rfl) | (apply awp_cond; rfl)); all_goals (intro hc; have hp := hc; first | (simp at hp; done) | ((try simp at hp); first | (exfalso; omega) | skip))) | (apply awp_cond_any; rfl))
        all_goals try (exfalso; first | omega | contradiction)
        rw [← hjr]
        refine ⟨cs.length - (jj + 1), _, by omega, red_pure (ts := [(1, .v (str who)), (2, .v (str folder)), (3, .v (str name)), (4, .v (str text)), (5, .v (str key)), (6, .fp [Hub.row ⟨F, G, U, now⟩] 0 0), (14, .fp [Ans.row ⟨0, nn, noPag⟩] 0 0), (19, .fp [h3'.row] 0 0), (22, .v (.int .i64 (i : Int))), (23, .fp [F[i].jou.row] 0 0), (24, .v (.int .i64 ((jj + 1 : Nat) : Int)))]) ?_, jj + 1, by omega, rfl, mem_take_succ hjl hsf hke, rfl⟩
        (repeat (first | exact tsok_nil | refine p_pure ?_ | refine p_eq ?_ ?_))
        all_goals first | rfl | (rw [hjr]; done) | trace_state
    obtain rfl : jj = cs.length := by omega
    have hsf2 : ∀ c, c ∈ F[i].jou.coms → ¬ c.key = key := by rw [hcs]; intro c hc; exact hsf c (by rw [List.take_length]; exact hc)
    have hnx := mem_take_succ (p := fun s : Fol => ∀ c, c ∈ s.jou.coms → ¬ c.key = key) hlt hsofar hsf2
    rw [hjr]
    repeat' (first | refine walk ?_ | (first | fail) | ((first | (apply ops_split_t; rfl; rfl; exact nle rfl) | (apply ops_split_f; rfl; rfl; exact nle rfl) | (apply awp_cond; rfl)); all_goals (intro hc; have hp := hc; first | (simp at hp; done) | ((try simp at hp); first | (exfalso; omega) | skip))) | (apply awp_cond_any; rfl))
    all_goals try (exfalso; first | omega | contradiction)
    refine ⟨F.length - (i + 1), _, by omega, red_pure (ts := [(1, .v (str who)), (2, .v (str folder)), (3, .v (str name)), (4, .v (str text)), (5, .v (str key)), (6, .fp [Hub.row ⟨F, G, U, now⟩] 0 0), (14, .fp [Ans.row ⟨0, nn, noPag⟩] 0 0), (19, .fp [h3'.row] 0 0), (22, .v (.int .i64 ((i + 1 : Nat) : Int)))]) ?_, i + 1, by omega, rfl, hnx, rfl⟩; ((repeat (first | exact tsok_nil | refine p_pure ?_ | refine p_eq ?_ ?_)))
  obtain rfl : i = F.length := by omega
  rw [List.take_length] at hsofar
  by_cases hde : de = 0
  · obtain ⟨t, w1, w2, w3, w4⟩ := hfc hsofar hde
    have w1 : treeW v folder = (t, 0) := w1
    have w2 : look t name = some ⟨name, false, text, dn⟩ := w2
    have w4 : pathErr name = 0 := w4
    rw [show treeR v folder = (t, 0) from by unfold treeR; rw [if_pos (hright_iff.2 R4.right), w1]] at ht
    have hfd := a_find t name w3.big (str_lift b3)
    have hE : findE t name = 0 := by
      unfold findE
      rw [if_neg (fun e => e (right_iff.2 w3)), if_neg (fun e => e w4), if_pos]
      rw [look_hit, w2]; rfl
    rw [hE, show findX t name = ⟨name, false, text, dn⟩ from by unfold findX; rw [if_pos hE]; show (match look t name with | some x => x | none => noEnt) = _; rw [w2]] at hfd
    subst hde
    have d1 : decide (text = text) = true := by simp
    have d2 : decide (dn = dn) = true := by simp
    clear hfc hsofar R4 B4 k5 w1 w2 w3 w4 hE hcl
    repeat' (first | refine walk ?_ | (first | (apply to_call Tryz.func18 rfl rfl; intro hIsFn; refine o_callp hIsFn (k4 ..) ?_) | (apply to_call Tryz.func21 rfl rfl; intro hIsFn; refine o_callp hIsFn (ht ..) ?_) | (apply to_call Tryz.func30 rfl rfl; intro hIsFn; refine o_callp hIsFn (hfd ..) ?_)) | ((first | (apply ops_split_t; rfl; rfl; exact nle rfl) | (apply ops_split_f; rfl; rfl; exact nle rfl) | (apply awp_cond; rfl)); all_goals (intro hc; have hp := hc; first | (simp at hp; done) | ((try simp at hp); first | (exfalso; omega) | skip))) | (apply awp_cond_any; rfl))
    all_goals try (exfalso; first | omega | contradiction | simp_all; done)
    all_goals (apply fin_bool; rfl; first | rfl | simp; done)
  · have hsm := R4.same hde
    obtain rfl : v = h3' := congrArg Prod.fst hsm
    have d0 : (!decide (de = 0)) = true := by simp [hde]
    have d2 : decide ((text.length : Int) = (text.length : Int)) = true := by simp
    clear hfc hsofar R4 B4 ht hcl hsm
    repeat' (first | refine walk ?_ | (first | (apply to_call Tryz.func18 rfl rfl; intro hIsFn; refine o_callp hIsFn (k4 ..) ?_) | (apply to_call Tryz.func18 rfl rfl; intro hIsFn; refine o_callp hIsFn (k5 ..) ?_)) | ((first | (apply ops_split_t; rfl; rfl; exact nle rfl) | (apply ops_split_f; rfl; rfl; exact nle rfl) | (apply awp_cond; rfl)); all_goals (intro hc; have hp := hc; first | (simp at hp; done) | ((try simp at hp); first | (exfalso; omega) | skip))) | (apply awp_cond_any; rfl))
    all_goals try (exfalso; first | omega | contradiction | simp_all; done)
    all_goals (apply fin_bool; rfl; first | rfl | simp; done)
theorem law_huploads_all (ys : List AV) (h : TyAllW C.tab 140737488355328 [28, 9, 9, 9, 9, 9] ys) : AFn C.P 11 ys (.v (.bool true)) := by
  obtain ⟨_, _, rfl, h0, _, _, rfl, h1, _, _, rfl, h2, _, _, rfl, h3, _, _, rfl, h4, _, _, rfl, h5, rfl⟩ := h
  obtain ⟨a, rfl, ha⟩ := tyv_hub h0
  obtain ⟨b, rfl, hb⟩ := tyv_str h1
  obtain ⟨c, rfl, hc⟩ := tyv_str h2
  obtain ⟨d, rfl, hd⟩ := tyv_str h3
  obtain ⟨e, rfl, he⟩ := tyv_str h4
  obtain ⟨f, rfl, hf⟩ := tyv_str h5
  exact law_huploads a ha b c d e f hb hc hd he hf
end Go.Proofs.YtiljlcgmcmjcoaaGreatDoor
