import Derived.Test.YtiljlcgmcmjcoaaGreatDoorMz30
import Derived.Test.YtiljlcgmcmjcoaaGreatDoorMz22
import Derived.Test.YtiljlcgmcmjcoaaGreatDoorMz19
import Derived.Test.YtiljlcgmcmjcoaaGreatDoorMz12
set_option linter.unusedSimpArgs false
set_option linter.unnecessarySimpa false
set_option linter.unusedVariables false
set_option maxHeartbeats 1000000
namespace Go.Proofs.YtiljlcgmcmjcoaaGreatDoor
open Go.Ab Go.RowKit
set_option maxRecDepth 10000
attribute [local irreducible] Awp jZ jg qJ Red qz Go.Ab.Fin qm Rz y0 qB qG ResOk jG q9 jK qV
theorem qfw {u : Upl} (h : yu u = 0) : SBig u.sess := by
  obtain ⟨a, b, c, d, e⟩ := z6 h
  refine ⟨fun s hs => ?_, by omega⟩
  have hc := c s hs
  have h2 := vk hc
  unfold j9 at hc
  split at hc
  · split at hc
    · rename_i hn
      split at hc
      · omega
      · have := (qb6 hn).2
        exact ⟨by omega, by omega⟩
    · omega
  · omega
theorem qeZ : JBig V4 := ⟨⟨by simp [V4], by simp [V4]⟩, ⟨by simp [V4], by simp [V4]⟩⟩
theorem Kr {h : Hub} (hb : HBig h) (hr : HRight h) {r : Rqt} (rb : RBig r) : HBig (zH h r).1 := by
  have hR := (XH hr r).right
  obtain ⟨a1, a2, a3, a4⟩ := xE hr.gra
  have hkeep : FBig h.fols ∧ GBig h.gras := ⟨hb.fols, hb.gras⟩
  suffices hs : FBig (zH h r).1.fols ∧ GBig (zH h r).1.gras from ⟨hs.1, hs.2, qfw hR.ups⟩
  have hcom : ∀ (u : Upl) (l : List Chg), CBig l → FBig (KL h r u l).1.fols ∧ GBig (KL h r u l).1.gras := fun u l lb => by
    unfold KL
    cases hj : kt h.fols r.folder with
    | none => exact hkeep
    | some j =>
      obtain ⟨hm, hh⟩ := Zk hj
      have hJ : JRight j := (hr.each _ hm).2
      dsimp only
      by_cases h0 : (vw j r.key l).2.2 = 0
      · rw [if_pos h0]
        refine ⟨⟨fun s hs => ?_, by show (QT _ _ _).length ≤ _; unfold QT; rw [List.length_map]; exact hb.fols.len⟩, hb.gras⟩
        rcases VY hs with ⟨rfl, _⟩ | ⟨hs, _⟩
        · refine ⟨rb.folder, ?_⟩
          show JBig (vw j r.key l).1
          rw [Qj hJ]
          exact qcd (hb.fols.each _ hm).jou lb rb.key
        · exact hb.fols.each s hs
      · rw [if_neg h0]; exact hkeep
  unfold zH
  split
  · exact hkeep
  split
  · exact hkeep
  split
  · unfold JG
    split
    · split
      · exact hkeep
      · refine ⟨⟨fun s hs => ?_, by show (JW _ _).length ≤ _; rw [Yq]; have := hr.len; omega⟩, qaf hb.gras a3 (by omega) (jQ rb.folder) (jQ rb.who)⟩
        rcases Qe.1 hs with rfl | hs
        · exact ⟨rb.folder, qeZ⟩
        · exact hb.fols.each s hs
    · exact hkeep
  split
  · unfold Kq
    split
    · exact hkeep
    · by_cases h0 : (zE h.gras r.folder r.who r.name r.number).2 = 0
      · rw [if_pos h0]
        refine ⟨hb.fols, ?_⟩
        show GBig (zE _ _ _ _ _).1
        rw [(Z7 h0).2.2]
        exact qaf hb.gras a3 (by omega) (jQ rb.folder) (jQ rb.name)
      · rw [if_neg h0]; exact hkeep
  split
  · unfold ZZ
    split
    · exact hkeep
    · split
      · exact hkeep
      · split <;> exact hkeep
  split
  · unfold ZE
    split <;> exact hkeep
  split
  · unfold ZE
    split <;> exact hkeep
  split
  · unfold qfc
    split <;> exact hkeep
  · unfold W4
    split
    · exact hkeep
    split
    · unfold qfv
      split
      · refine hcom _ _ ⟨fun c hc => ?_, by simp⟩
        rw [List.mem_singleton.1 hc]
        refine ⟨rb.name, by simp, ?_⟩
        show (zO h.ups r.who r.number h.now).2.1.length ≤ _
        unfold zO
        by_cases q1 : ye h.ups r.who r.number h.now = 0
        · rw [if_pos q1]
          have := JB q1
          split
          · simp
          · show (zT h.ups r.who r.number h.now).text.length ≤ _; omega
        · rw [if_neg q1]; simp
      · exact hkeep
    · exact hcom _ _ rb.chs
def bH1 : Hub := ⟨[⟨[102], V4⟩], [⟨[102], [97], 3⟩], ⟨[], 1, 10, 1000⟩, 0⟩
def bH2 : Hub := ⟨[⟨[102], ⟨[], 1, [⟨1, [107], [⟨2, [120], [], [49], 0⟩]⟩]⟩⟩], [⟨[102], [97], 3⟩], ⟨[], 1, 10, 1000⟩, 0⟩
def bR1 : Rqt := ⟨8, [97], [102], [], [], [], 0, 0, 0, []⟩
def bR2 : Rqt := ⟨1, [97], [102], [], [107], [], 0, 0, 0, [⟨2, [120], [], [49], 0⟩]⟩
theorem qcO : HBig (qdO 10 1000) := ⟨⟨nofun, by decide⟩, ⟨nofun, by decide⟩, ⟨nofun, by decide⟩⟩
theorem qcS : RBig bR1 := ⟨by decide, by decide, by decide, by decide, by decide, ⟨nofun, by decide⟩⟩
theorem qcw : RBig bR2 := ⟨by decide, by decide, by decide, by decide, by decide, ⟨fun c hc => by rw [List.mem_singleton.1 hc]; exact ⟨by decide, by decide, by decide⟩, by decide⟩⟩
theorem qbq : jT C.P 14 [] (.v (.bool true)) := by
  have h1 := qhC 10 1000
  rw [show qf6 10 1000 = (qdO 10 1000, 0) from by kernel_rfl] at h1
  have r0 : HRight (qdO 10 1000) := zh.1 (by kernel_rfl)
  have h2 := qaB (qdO 10 1000) qcO r0 bR1 qcS
  have b1 := Kr qcO r0 qcS
  have r1 := (XH r0 bR1).right
  rw [show zH (qdO 10 1000) bR1 = (bH1, Ky) from by kernel_rfl] at h2 b1 r1
  have h3 := qaB bH1 b1 r1 bR2 qcw
  have b2 := Kr b1 r1 qcw
  rw [show zH bH1 bR2 = (bH2, ⟨0, 1, Q3⟩) from by kernel_rfl] at h3 b2
  have h4 := qcL bH2 b2 [102]
  rw [show qaM bH2 [102] = ([⟨[120], false, [49], 1⟩], 0) from by kernel_rfl] at h4
  clear b1 b2 r0 r1
  unfold qaA at h2 h3
  refine qa Tryz.func14 rfl _ Tryz.ntmps14 (Nat.le_of_ble_eq_true rfl) _ Tryz.results14 0 rfl rfl ?_
  repeat' (first | refine qe ?_ | (first | (refine j4 ?_) | refine xsQ Tryz.func12 (h1 ..) ?_ | refine xsQ Tryz.func18 (h2 ..) ?_ | refine xsQ Tryz.func18 (h3 ..) ?_ | refine xsQ Tryz.func21 (h4 ..) ?_) | ((first | refine qb ?_ ?_ | refine qc ?_ ?_ | refine xsC ?_ ?_); all_goals (intro hc; have hp := hc; try simp at hp; try (exfalso; omega))) | refine qv ?_ ?_)
  all_goals try (exfalso; simp_all; done)
  all_goals (apply qU; rfl; first | rfl | simp; done)
end Go.Proofs.YtiljlcgmcmjcoaaGreatDoor
set_option linter.unusedSimpArgs false
set_option linter.unnecessarySimpa false
set_option linter.unusedVariables false
set_option maxHeartbeats 1000000
namespace Go.Proofs.YtiljlcgmcmjcoaaGreatDoor
open Go.Ab Go.RowKit
set_option maxRecDepth 10000
attribute [local irreducible] Awp jZ jg qJ Red qz Go.Ab.Fin qm Rz y0 qB qG ResOk jG q9 jK qV
theorem Zl (h : Hub) (hl : h.fols.length ≤ 1000000000) (p : qC) : jT C.P 27 [vS h, .v (str p)] (.v (.int .i64 (yg (atF p) h.fols))) := by
  obtain ⟨F, G, U, now⟩ := h
  dsimp only at *
  refine qa Tryz.func27 rfl _ Tryz.ntmps27 (Nat.le_of_ble_eq_true rfl) _ Tryz.results27 0 rfl rfl ?_
  (repeat apply jP); apply jd; (repeat' (first | apply jz | refine vD ?_ | refine vB ?_ | refine vE ?_ | refine zJ ?_ | refine vC ?_ | refine zj ?_ | refine kz ?_ | refine vF ?_ | (first | fail) | refine yY ?_)); show Awp _ _ _ _ _
  refine zD 2 0 ?_
  repeat' (first | refine qe ?_ | (first | fail) | ((first | refine xsC ?_ ?_); all_goals (intro hc; have hp := hc; try simp at hp; try (exfalso; omega))) | refine qv ?_ ?_)
  (refine Awp.red (qf (ts := [(2, .fp [Hub.row ⟨F, G, U, now⟩] 0 0), (1, .v (str p)), (5, .v (.int .i64 ((0 : Nat) : Int)))]) ?_) ?_; ((repeat (first | exact qd | refine qi ?_ | refine qL ?_ ?_))))
  refine qr (fun n σ => ∃ i : Nat, i ≤ F.length ∧ n = F.length - i ∧ (∀ s, s ∈ F.take i → atF p s = false) ∧ σ = ⟨[(2, .fp [Hub.row ⟨F, G, U, now⟩] 0 0), (1, .v (str p)), (5, .v (.int .i64 (i : Int)))], [], C.nh⟩) F.length ⟨0, Nat.zero_le _, rfl, (by simp), rfl⟩ ?_
  rintro n σ ⟨i, hi, rfl, hsofar, rfl⟩
  by_cases hlt : i < F.length
  · have hr := qx (f := Fol.row) hlt
    repeat' (first | refine qe ?_ | fail | ((first | refine xsC ?_ ?_); all_goals (intro hc; have hp := hc; try simp at hp; try (exfalso; omega))) | refine qv ?_ ?_)
    all_goals try (exfalso; omega)
    all_goals first
      | (apply qE; rfl; exact (vV hlt hsofar (by simp_all [atF])).symm)
      | (have he : atF p F[i] = false := (by simp_all [atF])
         refine ⟨F.length - (i + 1), _, by omega, qf (ts := [(2, .fp [Hub.row ⟨F, G, U, now⟩] 0 0), (1, .v (str p)), (5, .v (.int .i64 ((i + 1 : Nat) : Int)))]) ?_, i + 1, by omega, rfl, qK hlt hsofar he, rfl⟩; ((repeat (first | exact qd | refine qi ?_ | refine qL ?_ ?_))))
  obtain rfl : i = F.length := by omega
  repeat' (first | refine qe ?_ | fail | ((first | refine xsC ?_ ?_); all_goals (intro hc; have hp := hc; try simp at hp; try (exfalso; omega))) | refine qv ?_ ?_)
  all_goals try (exfalso; omega)
  apply qE
  rfl
  exact (xU fun s hs => hsofar s (by rw [List.take_length]; exact hs)).symm
theorem qfV {t : List Fol} {p : qC} : decide (yg (atF p) t < 0) = !xy t p := by
  rcases xt (atF p) t with ⟨h1, h2⟩ | ⟨k, hk, h1, _, h3⟩
  · have : xy t p = false := List.any_eq_false.2 (fun x hx => by have := h2 x hx; simpa [atF] using this)
    rw [h1, this]; rfl
  · have : xy t p = true := List.any_eq_true.2 ⟨t[k], List.getElem_mem _, h3⟩
    rw [h1, this]
    simp
theorem qdu {l : List Gra} {f : qC} : decide ((zy l f).length = 0) = !zS l f := by
  have : zy l f = [] ↔ zS l f = false := by
    rw [zS, List.any_eq_false]
    unfold zy
    simp [List.filter_eq_nil_iff, x6]
  by_cases h : zS l f = false
  · rw [h, this.2 h]; rfl
  · have h2 : zy l f ≠ [] := fun q => h (this.1 q)
    have h3 : zS l f = true := by simpa using h
    have h4 : (zy l f).length ≠ 0 := fun q => h2 (List.length_eq_zero_iff.1 q)
    simp [h3, h2]
theorem qef {h : Hub} {k : Nat} (hk : k < h.fols.length) (hn : zS h.gras h.fols[k].name = false) : vI h = false := by
  unfold vI
  rw [Bool.and_eq_false_iff]
  right
  rw [List.all_eq_false]
  exact ⟨h.fols[k], List.getElem_mem _, by rw [hn]; decide⟩
theorem qdX {h : Hub} (h1 : ∀ g, g ∈ h.gras → xy h.fols g.folder = true) (h2 : ∀ s, s ∈ h.fols → zS h.gras s.name = true) : vI h = true := by
  unfold vI
  rw [Bool.and_eq_true, List.all_eq_true, List.all_eq_true]
  exact ⟨h1, h2⟩
set_option maxHeartbeats 4000000 in
theorem qaZ (h : Hub) (hb : HBig h) : jT C.P 17 [vS h] (.v (.int .i64 (xA h))) := by
  have e1 := @Vp h
  have e2 := @XG h
  have e3 := @Zd h
  have e4 := @VP h
  have hmn := @qaS h
  have hmo := @qef h
  have hmy := @qdX h
  have hfa := fun p => Zl h hb.fols.len p
  have hgc := qdi h.gras hb.gras
  have huc := qfm h.ups hb.ups
  have hfb := hb.fols
  have hml := hb.gras.len
  obtain ⟨F, G, U, now⟩ := h
  dsimp only at *
  have hll := hfb.len
  generalize hE : xA ⟨F, G, U, now⟩ = E at *
  clear hE hb
  by_cases hn : qA now 0 1099511627776 = true
  case neg =>
    have hn : qA now 0 1099511627776 = false := by simpa using hn
    rw [e1 hn]
    have hw : now < 0 ∨ 1099511627776 < now := by
      by_cases h1 : now < 0
      · exact .inl h1
      · refine .inr ?_
        unfold qA at hn
        simp at hn
        omega
    clear e1 e2 e3 e4 hmn hmo hmy hfa hgc huc hfb
    refine qa Tryz.func17 rfl _ Tryz.ntmps17 (Nat.le_of_ble_eq_true rfl) _ Tryz.results17 0 rfl rfl ?_
    (repeat apply jP); apply jd; (repeat' (first | apply jz | refine vD ?_ | refine vB ?_ | refine vE ?_ | refine zJ ?_ | refine vC ?_ | refine kv ?_ | refine zj ?_ | refine kz ?_ | refine wc ?_ | refine vF ?_ | (first | fail) | refine yY ?_ | refine xi ?_ | refine xj ?_ | refine yE ?_ | refine yD ?_ | refine vn ?_ | refine vu ?_ | refine xh ?_ | refine xn ?_ | ((first | refine qb ?_ ?_ | refine qc ?_ ?_); all_goals (intro hc; have hp := hc; try simp at hp; try (exfalso; omega))))); show Awp _ _ _ _ _
    refine zD 1 0 ?_
    repeat' (first | refine qe ?_ | (first | fail) | ((first | refine qb ?_ ?_ | refine qc ?_ ?_ | refine xsC ?_ ?_); all_goals (intro hc; have hp := hc; try simp at hp; try (exfalso; omega))) | refine qv ?_ ?_)
    all_goals try (exfalso; first | omega | contradiction)
    all_goals ((exact yy (rs := [.tmp 2])))
  obtain ⟨n0, n1⟩ := vl.1 hn
  by_cases h8 : 8 < F.length
  · rw [e2 hn h8]
    clear e1 e2 e3 e4 hmn hmo hmy hfa hgc huc hfb
    refine qa Tryz.func17 rfl _ Tryz.ntmps17 (Nat.le_of_ble_eq_true rfl) _ Tryz.results17 0 rfl rfl ?_
    (repeat apply jP); apply jd; (repeat' (first | apply jz | refine vD ?_ | refine vB ?_ | refine vE ?_ | refine zJ ?_ | refine vC ?_ | refine kv ?_ | refine zj ?_ | refine kz ?_ | refine wc ?_ | refine vF ?_ | (first | fail) | refine yY ?_ | refine xi ?_ | refine xj ?_ | refine yE ?_ | refine yD ?_ | refine vn ?_ | refine vu ?_ | refine xh ?_ | refine xn ?_ | ((first | refine qb ?_ ?_ | refine qc ?_ ?_); all_goals (intro hc; have hp := hc; try simp at hp; try (exfalso; omega))))); show Awp _ _ _ _ _
    refine zD 1 0 ?_
    repeat' (first | refine qe ?_ | (first | fail) | ((first | refine qb ?_ ?_ | refine qc ?_ ?_ | refine xsC ?_ ?_); all_goals (intro hc; have hp := hc; try simp at hp; try (exfalso; omega))) | refine qv ?_ ?_)
    all_goals try (exfalso; first | omega | contradiction)
    all_goals ((exact yy (rs := [.tmp 2])))
  have e3 := e3 hn h8
  have e4 := fun {k} => @e4 hn h8 k
  clear e1 e2
  refine qa Tryz.func17 rfl _ Tryz.ntmps17 (Nat.le_of_ble_eq_true rfl) _ Tryz.results17 0 rfl rfl ?_
  (repeat apply jP); apply jd; (repeat' (first | apply jz | refine vD ?_ | refine vB ?_ | refine vE ?_ | refine zJ ?_ | refine vC ?_ | refine kv ?_ | refine zj ?_ | refine kz ?_ | refine wc ?_ | refine vF ?_ | (first | fail) | refine yY ?_ | refine xi ?_ | refine xj ?_ | refine yE ?_ | refine yD ?_ | refine vn ?_ | refine vu ?_ | refine xh ?_ | refine xn ?_ | ((first | refine qb ?_ ?_ | refine qc ?_ ?_); all_goals (intro hc; have hp := hc; try simp at hp; try (exfalso; omega))))); show Awp _ _ _ _ _
  refine zD 1 0 ?_
  repeat' (first | refine qe ?_ | (first | fail) | ((first | refine qb ?_ ?_ | refine qc ?_ ?_ | refine xsC ?_ ?_); all_goals (intro hc; have hp := hc; try simp at hp; try (exfalso; omega))) | refine qv ?_ ?_)
  all_goals try (exfalso; first | omega | contradiction)
  (refine Awp.red (qf (ts := [(1, .fp [Hub.row ⟨F, G, U, now⟩] 0 0), (3, .v (.int .i64 ((0 : Nat) : Int)))]) ?_) ?_; ((repeat (first | exact qd | refine qi ?_ | refine qL ?_ ?_))))
  all_goals try (rw [List.length_map]; done)
  refine qr (fun n σ => ∃ i : Nat, i ≤ F.length ∧ n = F.length - i ∧ (∀ g, g ∈ F.take i → xz g = 0) ∧ σ = ⟨[(1, .fp [Hub.row ⟨F, G, U, now⟩] 0 0), (3, .v (.int .i64 (i : Int)))], [], C.nh⟩) F.length ⟨0, Nat.zero_le _, rfl, (by simp), rfl⟩ ?_
  rintro n σ ⟨i, hi, rfl, hsofar, rfl⟩
  by_cases hlt : i < F.length
  · have hr := qx (f := Fol.row) hlt
    have hsm := hfb.each F[i] (List.getElem_mem _)
    have hname := Z5 F[i].name (by have := hsm.name; omega)
    have hjc := qfO F[i].jou hsm.jou
    have hfe : xz F[i] = if qo F[i].name = true then xX F[i].jou else 1 := rfl
    cases hin : qo F[i].name with
    | false =>
      rw [hin] at hname hfe
      have hfe : xz F[i] = 1 := by rw [hfe]; simp
      rw [e4 hlt hsofar (by rw [hfe]; decide), hfe]
      clear e3 e4 hmn hmo hmy hfa hgc huc hfb
      repeat' (first | refine qe ?_ | (first | refine xsF Tryz.func25 (hname ..) ?_ | refine xsF Tryz.func41 (hjc ..) ?_) | ((first | refine qb ?_ ?_ | refine qc ?_ ?_ | refine xsC ?_ ?_); all_goals (intro hc; have hp := hc; try simp at hp; try (exfalso; omega))) | refine qv ?_ ?_)
      all_goals try (exfalso; first | omega | contradiction)
      all_goals ((exact yy (rs := [.tmp 2])))
    | true =>
      rw [hin] at hname hfe
      have hfe : xz F[i] = xX F[i].jou := by rw [hfe]; simp
      by_cases hz : xX F[i].jou = 0
      · rw [hz] at hjc hfe
        have hnx := qK (p := fun g => xz g = 0) hlt hsofar hfe
        clear e3 e4 hmn hmo hmy hfa hgc huc hfb
        repeat' (first | refine qe ?_ | (first | refine xsF Tryz.func25 (hname ..) ?_ | refine xsF Tryz.func41 (hjc ..) ?_) | ((first | refine qb ?_ ?_ | refine qc ?_ ?_ | refine xsC ?_ ?_); all_goals (intro hc; have hp := hc; try simp at hp; try (exfalso; omega))) | refine qv ?_ ?_)
        all_goals try (exfalso; first | omega | contradiction)
        refine ⟨F.length - (i + 1), _, by omega, qf (ts := [(1, .fp [Hub.row ⟨F, G, U, now⟩] 0 0), (3, .v (.int .i64 ((i + 1 : Nat) : Int)))]) ?_, i + 1, by omega, rfl, hnx, rfl⟩; ((repeat (first | exact qd | refine qi ?_ | refine qL ?_ ?_)))
      · rw [e4 hlt hsofar (by rw [hfe]; exact hz), hfe]
        clear e3 e4 hmn hmo hmy hfa hgc huc hfb hfe
        generalize xX F[i].jou = JE at *
        repeat' (first | refine qe ?_ | (first | refine xsF Tryz.func25 (hname ..) ?_ | refine xsF Tryz.func41 (hjc ..) ?_) | ((first | refine qb ?_ ?_ | refine qc ?_ ?_ | refine xsC ?_ ?_); all_goals (intro hc; have hp := hc; try simp at hp; try (exfalso; omega))) | refine qv ?_ ?_)
        all_goals try (exfalso; first | omega | contradiction)
        all_goals ((exact yy (rs := [.tmp 2])))
  obtain rfl : i = F.length := by omega
  have hz : jI xz F = 0 := jE.2 (fun s hs => hsofar s (by rw [List.take_length]; exact hs))
  rw [if_neg (fun q => q hz)] at e3
  clear hsofar e4
  repeat' (first | refine qe ?_ | fail | ((first | refine qb ?_ ?_ | refine qc ?_ ?_ | refine xsC ?_ ?_); all_goals (intro hc; have hp := hc; try simp at hp; try (exfalso; omega))) | refine qv ?_ ?_)
  all_goals try (exfalso; omega)
  (refine Awp.red (qf (ts := [(1, .fp [Hub.row ⟨F, G, U, now⟩] 0 0), (5, .v (.int .i64 ((0 + 1 : Nat) : Int)))]) ?_) ?_; ((repeat (first | exact qd | refine qi ?_ | refine qL ?_ ?_))))
  refine qr (fun n σ => ∃ i : Nat, i ≤ (F.drop 1).length ∧ n = (F.drop 1).length - i ∧ (∀ (k : Nat) (h : k + 1 < F.length), k < i → yM (F[k]'(by omega)) F[k + 1] = true) ∧ σ = ⟨[(1, .fp [Hub.row ⟨F, G, U, now⟩] 0 0), (5, .v (.int .i64 ((i + 1 : Nat) : Int)))], [], C.nh⟩) (F.drop 1).length ⟨0, Nat.zero_le _, rfl, (fun k h hk => absurd hk (Nat.not_lt_zero _)), rfl⟩ ?_
  have hdl : (F.drop 1).length = F.length - 1 := by simp
  rintro n σ ⟨i, hi, rfl, hsofar, rfl⟩
  by_cases hlt : i + 1 < F.length
  · have hr := qx (f := Fol.row) hlt
    have hr' := qx (f := Fol.row) (l := F) (i := i) (by omega)
    have hle := qcr F[i] F[i + 1]
    have hnr : yM F[i] F[i + 1] = false → qt yM F = false := fun h => by
      cases hq : qt yM F
      · rfl
      · have := jW.1 hq i hlt
        rw [h] at this; cases this
    cases hfl : yM F[i] F[i + 1] with
    | false =>
      rw [if_pos (hnr hfl)] at e3
      rw [e3]
      rw [hfl] at hle
      clear e3 hmn hmo hmy hfa hgc huc hnr
      repeat' (first | refine qe ?_ | fail | ((first | refine qb ?_ ?_ | refine qc ?_ ?_ | refine xsC ?_ ?_); all_goals (intro hc; have hp := hc; try simp at hp; try (exfalso; omega))) | refine qv ?_ ?_)
      all_goals try (exfalso; first | omega | simp_all; done)
      all_goals ((exact yy (rs := [.tmp 2])))
    | true =>
      rw [hfl] at hle
      have hok := hfl
      clear e3 hmn hmo hmy hfa hgc huc hnr
      repeat' (first | refine qe ?_ | fail | ((first | refine qb ?_ ?_ | refine qc ?_ ?_ | refine xsC ?_ ?_); all_goals (intro hc; have hp := hc; try simp at hp; try (exfalso; omega))) | refine qv ?_ ?_)
      all_goals try (exfalso; first | omega | simp_all; done)
      refine ⟨(F.drop 1).length - (i + 1), _, by omega, qf (ts := [(1, .fp [Hub.row ⟨F, G, U, now⟩] 0 0), (5, .v (.int .i64 ((i + 1 + 1 : Nat) : Int)))]) ?_, i + 1, by omega, rfl, (fun k h hk => by
        by_cases e : k = i
        · subst e; exact hok
        · exact hsofar k h (by omega)), rfl⟩; ((repeat (first | exact qd | refine qi ?_ | refine qL ?_ ?_)))
  have hrise : qt yM F = true := jW.2 fun k h => hsofar k h (by simp at hi; omega)
  rw [if_neg (by rw [hrise]; decide)] at e3
  clear hsofar
  by_cases hg0 : jH G = 0
  case neg =>
    rw [if_pos hg0] at e3
    rw [e3]
    generalize jH G = GE at *
    clear hmn hmo hmy hfa huc e3
    repeat' (first | refine qe ?_ | (first | refine xsF Tryz.func42 (hgc ..) ?_) | ((first | refine qb ?_ ?_ | refine qc ?_ ?_ | refine xsC ?_ ?_); all_goals (intro hc; have hp := hc; try simp at hp; try (exfalso; omega))) | refine qv ?_ ?_)
    all_goals try (exfalso; first | omega | contradiction)
    all_goals ((exact yy (rs := [.tmp 2])))
  rw [if_neg (fun q => q hg0)] at e3
  rw [hg0] at hgc
  have hgl := vK hg0
  repeat' (first | refine qe ?_ | (first | refine xsF Tryz.func42 (hgc ..) ?_) | ((first | refine qb ?_ ?_ | refine qc ?_ ?_ | refine xsC ?_ ?_); all_goals (intro hc; have hp := hc; try simp at hp; try (exfalso; omega))) | refine qv ?_ ?_)
  all_goals try (exfalso; first | omega | contradiction)
  (refine Awp.red (qf (ts := [(1, .fp [Hub.row ⟨F, G, U, now⟩] 0 0), (7, .v (.int .i64 ((0 : Nat) : Int)))]) ?_) ?_; ((repeat (first | exact qd | refine qi ?_ | refine qL ?_ ?_))))
  refine qr (fun n σ => ∃ i : Nat, i ≤ G.length ∧ n = G.length - i ∧ (∀ g, g ∈ G.take i → xy F g.folder = true) ∧ σ = ⟨[(1, .fp [Hub.row ⟨F, G, U, now⟩] 0 0), (7, .v (.int .i64 (i : Int)))], [], C.nh⟩) G.length ⟨0, Nat.zero_le _, rfl, (by simp), rfl⟩ ?_
  rintro n σ ⟨i, hi, rfl, hsofar, rfl⟩
  by_cases hlt : i < G.length
  · have hr := qx (f := Gra.row) hlt
    have hf := hfa G[i].folder
    have hx := qfV (t := F) (p := G[i].folder)
    generalize yg (atF G[i].folder) F = K at *
    cases hh : xy F G[i].folder with
    | false =>
      rw [hmn hlt hh, if_pos rfl] at e3
      rw [e3]
      rw [hh] at hx
      have hx : K < 0 := by simpa using hx
      clear e3 hmn hmo hmy hfa huc
      repeat' (first | refine qe ?_ | (first | refine xsF Tryz.func27 (hf ..) ?_) | ((first | refine qb ?_ ?_ | refine qc ?_ ?_ | refine xsC ?_ ?_); all_goals (intro hc; have hp := hc; try simp at hp; try (exfalso; omega))) | refine qv ?_ ?_)
      all_goals try (exfalso; first | omega | contradiction)
      all_goals ((exact yy (rs := [.tmp 2])))
    | true =>
      rw [hh] at hx
      have hx : ¬ K < 0 := by simpa using hx
      clear e3 hmn hmo hmy hfa huc
      repeat' (first | refine qe ?_ | (first | refine xsF Tryz.func27 (hf ..) ?_) | ((first | refine qb ?_ ?_ | refine qc ?_ ?_ | refine xsC ?_ ?_); all_goals (intro hc; have hp := hc; try simp at hp; try (exfalso; omega))) | refine qv ?_ ?_)
      all_goals try (exfalso; first | omega | contradiction)
      refine ⟨G.length - (i + 1), _, by omega, qf (ts := [(1, .fp [Hub.row ⟨F, G, U, now⟩] 0 0), (7, .v (.int .i64 ((i + 1 : Nat) : Int)))]) ?_, i + 1, by omega, rfl, qK hlt hsofar hh, rfl⟩; ((repeat (first | exact qd | refine qi ?_ | refine qL ?_ ?_)))
  obtain rfl : i = G.length := by omega
  rw [List.take_length] at hsofar
  have hmy := hmy hsofar
  clear hsofar hmn hfa
  repeat' (first | refine qe ?_ | fail | ((first | refine qb ?_ ?_ | refine qc ?_ ?_ | refine xsC ?_ ?_); all_goals (intro hc; have hp := hc; try simp at hp; try (exfalso; omega))) | refine qv ?_ ?_)
  all_goals try (exfalso; omega)
  (refine Awp.red (qf (ts := [(1, .fp [Hub.row ⟨F, G, U, now⟩] 0 0), (8, .v (.int .i64 ((0 : Nat) : Int)))]) ?_) ?_; ((repeat (first | exact qd | refine qi ?_ | refine qL ?_ ?_))))
  refine qr (fun n σ => ∃ i : Nat, i ≤ F.length ∧ n = F.length - i ∧ (∀ s, s ∈ F.take i → zS G s.name = true) ∧ σ = ⟨[(1, .fp [Hub.row ⟨F, G, U, now⟩] 0 0), (8, .v (.int .i64 (i : Int)))], [], C.nh⟩) F.length ⟨0, Nat.zero_le _, rfl, (by simp), rfl⟩ ?_
  rintro n σ ⟨i, hi, rfl, hsofar, rfl⟩
  by_cases hlt : i < F.length
  · have hr := qx (f := Fol.row) hlt
    have hf := qgh G F[i].name (by omega)
    have hx := qdu (l := G) (f := F[i].name)
    generalize zy G F[i].name = K at *
    cases hh : zS G F[i].name with
    | false =>
      rw [hmo hlt hh, if_pos rfl] at e3
      rw [e3]
      rw [hh] at hx
      have hx : K = [] := by simpa using hx
      clear e3 hmo hmy huc
      repeat' (first | refine qe ?_ | (first | refine xsQ Tryz.func43 (hf ..) ?_) | ((first | refine qb ?_ ?_ | refine qc ?_ ?_ | refine xsC ?_ ?_); all_goals (intro hc; have hp := hc; try simp at hp; try (exfalso; omega))) | refine qv ?_ ?_)
      all_goals try (exfalso; first | omega | contradiction)
      all_goals ((exact yy (rs := [.tmp 2])))
    | true =>
      rw [hh] at hx
      have hx : ¬ K = [] := by simpa using hx
      clear e3 hmo hmy huc
      repeat' (first | refine qe ?_ | (first | refine xsQ Tryz.func43 (hf ..) ?_) | ((first | refine qb ?_ ?_ | refine qc ?_ ?_ | refine xsC ?_ ?_); all_goals (intro hc; have hp := hc; try simp at hp; try (exfalso; omega))) | refine qv ?_ ?_)
      all_goals try (exfalso; first | omega | contradiction)
      refine ⟨F.length - (i + 1), _, by omega, qf (ts := [(1, .fp [Hub.row ⟨F, G, U, now⟩] 0 0), (8, .v (.int .i64 ((i + 1 : Nat) : Int)))]) ?_, i + 1, by omega, rfl, qK hlt hsofar hh, rfl⟩; ((repeat (first | exact qd | refine qi ?_ | refine qL ?_ ?_)))
  obtain rfl : i = F.length := by omega
  rw [List.take_length] at hsofar
  rw [hmy hsofar, if_neg (by decide)] at e3
  rw [e3]
  clear e3 hmo hmy
  generalize yu U = UE at *
  repeat' (first | refine qe ?_ | (first | refine xsF Tryz.func13 (huc ..) ?_) | ((first | refine qb ?_ ?_ | refine qc ?_ ?_ | refine xsC ?_ ?_); all_goals (intro hc; have hp := hc; try simp at hp; try (exfalso; omega))) | refine qv ?_ ?_)
  all_goals try (exfalso; first | omega | contradiction)
  all_goals ((exact yy (rs := [.tmp 2])))
end Go.Proofs.YtiljlcgmcmjcoaaGreatDoor
set_option linter.unusedSimpArgs false
set_option linter.unnecessarySimpa false
set_option linter.unusedVariables false
set_option maxHeartbeats 1000000
namespace Go.Proofs.YtiljlcgmcmjcoaaGreatDoor
open Go.Ab Go.RowKit
set_option maxRecDepth 10000
attribute [local irreducible] Awp jZ jg qJ Red qz Go.Ab.Fin qm Rz y0 qB qG ResOk jG q9 jK qV
theorem Z2 : HBig Ks := ⟨⟨nofun, by decide⟩, ⟨nofun, by decide⟩, ⟨nofun, by decide⟩⟩
theorem HRight.lens {h : Hub} (hr : HRight h) : h.fols.length ≤ 1000000 ∧ h.gras.length ≤ 1000000 := by
  have := hr.len
  have := (xE hr.gra).1
  omega
end Go.Proofs.YtiljlcgmcmjcoaaGreatDoor
set_option linter.unusedSimpArgs false
set_option linter.unnecessarySimpa false
set_option linter.unusedVariables false
set_option maxHeartbeats 1000000
namespace Go.Proofs.YtiljlcgmcmjcoaaGreatDoor
open Go.Ab Go.RowKit
set_option maxRecDepth 10000
attribute [local irreducible] Awp jZ jg qJ Red qz Go.Ab.Fin qm Rz y0 qB qG ResOk jG q9 jK qV
theorem X1 (t : List Ent) (e : Int) (h : ¬ e = 0 → t = []) : YS t e e t = true := by
  unfold YS
  by_cases h0 : e = 0
  · rw [if_pos h0]; simp
  · rw [if_neg h0, h h0]; simp
theorem qd1 {t : List Ent} (h : Right t) : t.length ≤ 1000000000 := by have := h.len; omega
theorem qbJ (h : Hub) (hb : HBig h) (n : Int) (f : qC) : jT C.P 10 [vS h, .v (.int .i64 n), .v (str f)] (.v (.bool true)) := by
  have hg := qbq
  have h1 := qf0 h hb n
  have h2 := qcL h hb f
  have h3 := qaZ h hb
  unfold qcu at h1
  unfold qaM at h2
  by_cases h0 : xA h = 0
  case neg =>
    rw [if_neg h0] at h1 h2
    generalize xA h = E at *
    have d0 : decide (E = E) = true := by simp
    have d1 : decide (E = 0) = false := decide_eq_false h0
    have hs := Y2 Ks Z2 (by decide) (by decide)
    have h4 := qaN [] E E [] (by simp) (by simp)
    rw [X1 [] E (fun _ => rfl)] at h4
    refine qa Tryz.func10 rfl _ Tryz.ntmps10 (Nat.le_of_ble_eq_true rfl) _ Tryz.results10 0 rfl rfl ?_
    (repeat apply jP); apply jd; (repeat' (first | apply jz | refine vD ?_ | refine vB ?_ | refine vE ?_ | refine zJ ?_ | refine vC ?_ | refine kv ?_ | refine kz ?_ | refine wX ?_ | refine QK ?_ | refine ko ?_ | refine vF ?_ | refine vc ?_ | (first | fail) | refine yY ?_ | refine xi ?_ | refine xj ?_ | refine yE ?_ | refine yD ?_ | refine vn ?_ | refine vu ?_ | refine xh ?_ | refine xn ?_ | ((first | refine qb ?_ ?_ | refine qc ?_ ?_); all_goals (intro hc; have hp := hc; try simp at hp; try (exfalso; omega))))); show Awp _ _ _ _ _
    refine zD 3 0 ?_
    repeat' (first | refine qe ?_ | (first | refine xsQ Tryz.func26 (h1 ..) ?_ | refine xsQ Tryz.func21 (h2 ..) ?_ | refine xsF Tryz.func17 (h3 ..) ?_ | refine xsF Tryz.func14 (hg ..) ?_ | refine xsF Tryz.func15 (hs ..) ?_ | refine xsF Tryz.func29 (h4 ..) ?_) | ((first | refine qb ?_ ?_ | refine qc ?_ ?_ | refine xsC ?_ ?_); all_goals (intro hc; have hp := hc; try simp at hp; try (exfalso; omega))) | refine qv ?_ ?_)
    all_goals try (exfalso; first | omega | contradiction | simp_all; done)
    all_goals (apply qU; rfl; first | rfl | simp; done)
  rw [if_pos h0] at h1 h2
  have hr := zh.1 h0
  rw [h0] at h3
  have hn1 := (vl.1 hr.now).1
  have hn2 := (vl.1 hr.now).2
  have hl := hr.len
  have hfa := Zl h (by omega) f
  have h5 : ∃ T e K, qcY h f = (T, e) ∧ yg (atF f) h.fols = K ∧ (¬ e = 0 → T = []) ∧ T.length ≤ 1000000000 ∧ ((e = 5 ∧ K = -1) ∨ (e = 0 ∧ ∃ k : Nat, K = k ∧ ∃ hk : k < h.fols.length, jT C.P 28 [.agg h.fols[k].jou.row] (qp T))) := by
    unfold qcY
    cases hh : xy h.fols f with
    | false =>
      rw [V9.2 hh]
      exact ⟨[], 5, -1, rfl, (qc8 hh).2, fun _ => rfl, by simp, .inl ⟨rfl, rfl⟩⟩
    | true =>
      obtain ⟨hk, h1, h2, h3⟩ := KP hr.rise hh
      have hj : kt h.fols f = some h.fols[xW h.fols f].jou := by
        unfold kt
        rw [show h.fols.find? (fun s => decide (s.name = f)) = h.fols.find? (atF f) from rfl, h2]; rfl
      rw [hj]
      have hJ := (hr.each _ (List.getElem_mem hk)).2
      exact ⟨_, 0, _, rfl, h3, fun q => absurd rfl q, qd1 hJ.now, .inr ⟨rfl, _, rfl, hk, qfU _ (hb.fols.each _ (List.getElem_mem _)).jou hJ⟩⟩
  obtain ⟨T, e, K, q1, q2, q3, q4, q5⟩ := h5
  rw [q1] at h2
  rw [q2] at hfa
  have h4 := qaN T e e T q4 q4
  rw [X1 T e q3] at h4
  have hs1 := Y2 Ks Z2 (by decide) (by decide)
  have hs2 := Y2 { h with now := h.now + n } ⟨hb.1, hb.2, hb.3⟩ hr.lens.1 hr.lens.2
  dsimp only at *
  clear q1 q2 hr h0 hb
  rcases q5 with ⟨rfl, rfl⟩ | ⟨rfl, k, rfl, hk, hto⟩
  · obtain rfl := q3 (by decide)
    by_cases hbad : n < 0 ∨ 1099511627776 - h.now < n
    · rw [if_pos hbad] at h1
      refine qa Tryz.func10 rfl _ Tryz.ntmps10 (Nat.le_of_ble_eq_true rfl) _ Tryz.results10 0 rfl rfl ?_
      (repeat apply jP); apply jd; (repeat' (first | apply jz | refine vD ?_ | refine vB ?_ | refine vE ?_ | refine zJ ?_ | refine vC ?_ | refine kv ?_ | refine kz ?_ | refine wX ?_ | refine QK ?_ | refine ko ?_ | refine vF ?_ | refine vc ?_ | (first | fail) | refine yY ?_ | refine xi ?_ | refine xj ?_ | refine yE ?_ | refine yD ?_ | refine vn ?_ | refine vu ?_ | refine xh ?_ | refine xn ?_ | ((first | refine qb ?_ ?_ | refine qc ?_ ?_); all_goals (intro hc; have hp := hc; try simp at hp; try (exfalso; omega))))); show Awp _ _ _ _ _
      refine zD 3 0 ?_
      repeat' (first | refine qe ?_ | (first | refine xsQ Tryz.func26 (h1 ..) ?_ | refine xsQ Tryz.func21 (h2 ..) ?_ | refine xsF Tryz.func17 (h3 ..) ?_ | refine xsF Tryz.func27 (hfa ..) ?_ | refine xsF Tryz.func14 (hg ..) ?_ | refine xsF Tryz.func15 (hs1 ..) ?_ | refine xsF Tryz.func29 (h4 ..) ?_) | ((first | refine qb ?_ ?_ | refine qc ?_ ?_ | refine xsC ?_ ?_); all_goals (intro hc; have hp := hc; try simp at hp; try (exfalso; omega))) | refine qv ?_ ?_)
      all_goals try (exfalso; first | omega | contradiction | simp_all; done)
      all_goals (apply qU; rfl; first | rfl | simp; done)
    · rw [if_neg hbad] at h1
      refine qa Tryz.func10 rfl _ Tryz.ntmps10 (Nat.le_of_ble_eq_true rfl) _ Tryz.results10 0 rfl rfl ?_
      (repeat apply jP); apply jd; (repeat' (first | apply jz | refine vD ?_ | refine vB ?_ | refine vE ?_ | refine zJ ?_ | refine vC ?_ | refine kv ?_ | refine kz ?_ | refine wX ?_ | refine QK ?_ | refine ko ?_ | refine vF ?_ | refine vc ?_ | (first | fail) | refine yY ?_ | refine xi ?_ | refine xj ?_ | refine yE ?_ | refine yD ?_ | refine vn ?_ | refine vu ?_ | refine xh ?_ | refine xn ?_ | ((first | refine qb ?_ ?_ | refine qc ?_ ?_); all_goals (intro hc; have hp := hc; try simp at hp; try (exfalso; omega))))); show Awp _ _ _ _ _
      refine zD 3 0 ?_
      repeat' (first | refine qe ?_ | (first | refine xsQ Tryz.func26 (h1 ..) ?_ | refine xsQ Tryz.func21 (h2 ..) ?_ | refine xsF Tryz.func17 (h3 ..) ?_ | refine xsF Tryz.func27 (hfa ..) ?_ | refine xsF Tryz.func14 (hg ..) ?_ | refine xsF Tryz.func15 (hs2 ..) ?_ | refine xsF Tryz.func29 (h4 ..) ?_) | ((first | refine qb ?_ ?_ | refine qc ?_ ?_ | refine xsC ?_ ?_); all_goals (intro hc; have hp := hc; try simp at hp; try (exfalso; omega))) | refine qv ?_ ?_)
      all_goals try (exfalso; first | omega | contradiction | simp_all; done)
      all_goals (apply qU; rfl; first | rfl | simp; done)
  · have hrow := qx (f := Fol.row) hk
    have hrow2 : (h.fols.map Fol.row)[((k : Nat) : Int).toNat]? = some h.fols[k].row := hrow
    by_cases hbad : n < 0 ∨ 1099511627776 - h.now < n
    · rw [if_pos hbad] at h1
      refine qa Tryz.func10 rfl _ Tryz.ntmps10 (Nat.le_of_ble_eq_true rfl) _ Tryz.results10 0 rfl rfl ?_
      (repeat apply jP); apply jd; (repeat' (first | apply jz | refine vD ?_ | refine vB ?_ | refine vE ?_ | refine zJ ?_ | refine vC ?_ | refine kv ?_ | refine kz ?_ | refine wX ?_ | refine QK ?_ | refine ko ?_ | refine vF ?_ | refine vc ?_ | (first | fail) | refine yY ?_ | refine xi ?_ | refine xj ?_ | refine yE ?_ | refine yD ?_ | refine vn ?_ | refine vu ?_ | refine xh ?_ | refine xn ?_ | ((first | refine qb ?_ ?_ | refine qc ?_ ?_); all_goals (intro hc; have hp := hc; try simp at hp; try (exfalso; omega))))); show Awp _ _ _ _ _
      refine zD 3 0 ?_
      repeat' (first | refine qe ?_ | (first | refine xsQ Tryz.func26 (h1 ..) ?_ | refine xsQ Tryz.func21 (h2 ..) ?_ | refine xsF Tryz.func17 (h3 ..) ?_ | refine xsF Tryz.func27 (hfa ..) ?_ | refine xsQ Tryz.func28 (hto ..) ?_ | refine xsF Tryz.func14 (hg ..) ?_ | refine xsF Tryz.func15 (hs1 ..) ?_ | refine xsF Tryz.func29 (h4 ..) ?_) | ((first | refine qb ?_ ?_ | refine qc ?_ ?_ | refine xsC ?_ ?_); all_goals (intro hc; have hp := hc; try simp at hp; try (exfalso; omega))) | refine qv ?_ ?_)
      all_goals try (exfalso; first | omega | contradiction | simp_all; done)
      all_goals (apply qU; rfl; first | rfl | simp; done)
    · rw [if_neg hbad] at h1
      refine qa Tryz.func10 rfl _ Tryz.ntmps10 (Nat.le_of_ble_eq_true rfl) _ Tryz.results10 0 rfl rfl ?_
      (repeat apply jP); apply jd; (repeat' (first | apply jz | refine vD ?_ | refine vB ?_ | refine vE ?_ | refine zJ ?_ | refine vC ?_ | refine kv ?_ | refine kz ?_ | refine wX ?_ | refine QK ?_ | refine ko ?_ | refine vF ?_ | refine vc ?_ | (first | fail) | refine yY ?_ | refine xi ?_ | refine xj ?_ | refine yE ?_ | refine yD ?_ | refine vn ?_ | refine vu ?_ | refine xh ?_ | refine xn ?_ | ((first | refine qb ?_ ?_ | refine qc ?_ ?_); all_goals (intro hc; have hp := hc; try simp at hp; try (exfalso; omega))))); show Awp _ _ _ _ _
      refine zD 3 0 ?_
      repeat' (first | refine qe ?_ | (first | refine xsQ Tryz.func26 (h1 ..) ?_ | refine xsQ Tryz.func21 (h2 ..) ?_ | refine xsF Tryz.func17 (h3 ..) ?_ | refine xsF Tryz.func27 (hfa ..) ?_ | refine xsQ Tryz.func28 (hto ..) ?_ | refine xsF Tryz.func14 (hg ..) ?_ | refine xsF Tryz.func15 (hs2 ..) ?_ | refine xsF Tryz.func29 (h4 ..) ?_) | ((first | refine qb ?_ ?_ | refine qc ?_ ?_ | refine xsC ?_ ?_); all_goals (intro hc; have hp := hc; try simp at hp; try (exfalso; omega))) | refine qv ?_ ?_)
      all_goals try (exfalso; first | omega | contradiction | simp_all; done)
      all_goals (apply qU; rfl; first | rfl | simp; done)
end Go.Proofs.YtiljlcgmcmjcoaaGreatDoor
