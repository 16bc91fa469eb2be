import Derived.Test.YtiljlcgmcmjcoaaGreatDoorMz30
import Derived.Test.YtiljlcgmcmjcoaaGreatDoorMz22
import Derived.Test.YtiljlcgmcmjcoaaGreatDoorMz19
import Derived.Test.YtiljlcgmcmjcoaaGreatDoorMz12
set_option linter.unusedSimpArgs false
set_option linter.unnecessarySimpa false
set_option linter.unusedVariables false
set_option maxHeartbeats 1000000
namespace Go.Proofs.YtiljlcgmcmjcoaaGreatDoor
open Go.Ab Go.RowKit
set_option maxRecDepth 10000
attribute [local irreducible] Awp jV q9 qJ Red qy Go.Ab.Fin ql Rz yQ qA qG ResOk jC q6 jH qT
theorem qfa {u : Upl} (h : yq u = 0) : SBig u.sess := by
  obtain ⟨a, b, c, d, e⟩ := zO h
  refine ⟨fun s hs => ?_, by omega⟩
  have hc := c s hs
  have h2 := xZ hc
  unfold j7 at hc
  split at hc
  · split at hc
    · rename_i hn
      split at hc
      · omega
      · have := (qaR hn).2
        exact ⟨by omega, by omega⟩
    · omega
  · omega
theorem qe5 : JBig Zi := ⟨⟨by simp [Zi], by simp [Zi]⟩, ⟨by simp [Zi], by simp [Zi]⟩⟩
theorem ZB {h : Hub} (hb : HBig h) (hr : HRight h) {r : Rqt} (rb : RBig r) : HBig (zp h r).1 := by
  have hR := (XA hr r).right
  obtain ⟨a1, a2, a3, a4⟩ := xF hr.gra
  have hkeep : FBig h.fols ∧ GBig h.gras := ⟨hb.fols, hb.gras⟩
  suffices hs : FBig (zp h r).1.fols ∧ GBig (zp h r).1.gras from ⟨hs.1, hs.2, qfa hR.ups⟩
  have hcom : ∀ (u : Upl) (l : List Chg), CBig l → FBig (Kl h r u l).1.fols ∧ GBig (Kl h r u l).1.gras := fun u l lb => by
    unfold Kl
    cases hj : wa h.fols r.folder with
    | none => exact hkeep
    | some j =>
      obtain ⟨hm, hh⟩ := VM hj
      have hJ : JRight j := (hr.each _ hm).2
      dsimp only
      by_cases h0 : (vl j r.key l).2.2 = 0
      · rw [if_pos h0]
        refine ⟨⟨fun s hs => ?_, by show (QP _ _ _).length ≤ _; unfold QP; rw [List.length_map]; exact hb.fols.len⟩, hb.gras⟩
        rcases VE hs with ⟨rfl, _⟩ | ⟨hs, _⟩
        · refine ⟨rb.folder, ?_⟩
          show JBig (vl j r.key l).1
          rw [Qv hJ]
          exact qbe (hb.fols.each _ hm).jou lb rb.key
        · exact hb.fols.each s hs
      · rw [if_neg h0]; exact hkeep
  unfold zp
  split
  · exact hkeep
  split
  · exact hkeep
  split
  · unfold Jn
    split
    · split
      · exact hkeep
      · refine ⟨⟨fun s hs => ?_, by show (JY _ _).length ≤ _; rw [Yo]; have := hr.len; omega⟩, qaE hb.gras a3 (by omega) (jN rb.folder) (jN rb.who)⟩
        rcases wM.1 hs with rfl | hs
        · exact ⟨rb.folder, qe5⟩
        · exact hb.fols.each s hs
    · exact hkeep
  split
  · unfold ZQ
    split
    · exact hkeep
    · by_cases h0 : (zo h.gras r.folder r.who r.name r.number).2 = 0
      · rw [if_pos h0]
        refine ⟨hb.fols, ?_⟩
        show GBig (zo _ _ _ _ _).1
        rw [(ZU h0).2.2]
        exact qaE hb.gras a3 (by omega) (jN rb.folder) (jN rb.name)
      · rw [if_neg h0]; exact hkeep
  split
  · unfold ZO
    split
    · exact hkeep
    · split
      · exact hkeep
      · split <;> exact hkeep
  split
  · unfold ZA
    split <;> exact hkeep
  split
  · unfold ZA
    split <;> exact hkeep
  split
  · unfold qeI
    split <;> exact hkeep
  · unfold WF
    split
    · exact hkeep
    split
    · unfold qdV
      split
      · refine hcom _ _ ⟨fun c hc => ?_, by simp⟩
        rw [List.mem_singleton.1 hc]
        refine ⟨rb.name, by simp, ?_⟩
        show (zy h.ups r.who r.number h.now).2.1.length ≤ _
        unfold zy
        by_cases q1 : yb h.ups r.who r.number h.now = 0
        · rw [if_pos q1]
          have := Jh q1
          split
          · simp
          · show (zC h.ups r.who r.number h.now).text.length ≤ _; omega
        · rw [if_neg q1]; simp
      · exact hkeep
    · exact hcom _ _ rb.chs
def bH1 : Hub := ⟨[⟨[102], Zi⟩], [⟨[102], [97], 3⟩], ⟨[], 1, 10, 1000⟩, 0⟩
def bH2 : Hub := ⟨[⟨[102], ⟨[], 1, [⟨1, [107], [⟨2, [120], [], [49], 0⟩]⟩]⟩⟩], [⟨[102], [97], 3⟩], ⟨[], 1, 10, 1000⟩, 0⟩
def bR1 : Rqt := ⟨8, [97], [102], [], [], [], 0, 0, 0, []⟩
def bR2 : Rqt := ⟨1, [97], [102], [], [107], [], 0, 0, 0, [⟨2, [120], [], [49], 0⟩]⟩
theorem qcd : HBig (qda 10 1000) := ⟨⟨nofun, by decide⟩, ⟨nofun, by decide⟩, ⟨nofun, by decide⟩⟩
theorem qcz : RBig bR1 := ⟨by decide, by decide, by decide, by decide, by decide, ⟨nofun, by decide⟩⟩
theorem qcj : RBig bR2 := ⟨by decide, by decide, by decide, by decide, by decide, ⟨fun c hc => by rw [List.mem_singleton.1 hc]; exact ⟨by decide, by decide, by decide⟩, by decide⟩⟩
theorem qbo : jY C.P 14 [] (.v (.bool true)) := by
  have h1 := qgW 10 1000
  rw [show qf6 10 1000 = (qda 10 1000, 0) from by kernel_rfl] at h1
  have r0 : HRight (qda 10 1000) := wb.1 (by kernel_rfl)
  have h2 := Wx (qda 10 1000) qcd r0 bR1 qcz
  have b1 := ZB qcd r0 qcz
  have r1 := (XA r0 bR1).right
  rw [show zp (qda 10 1000) bR1 = (bH1, ZC) from by kernel_rfl] at h2 b1 r1
  have h3 := Wx bH1 b1 r1 bR2 qcj
  have b2 := ZB b1 r1 qcj
  rw [show zp bH1 bR2 = (bH2, ⟨0, 1, QI⟩) from by kernel_rfl] at h3 b2
  have h4 := qf2 bH2 b2 [102]
  rw [show qcr bH2 [102] = ([⟨[120], false, [49], 1⟩], 0) from by kernel_rfl] at h4
  clear b1 b2 r0 r1
  unfold qaf at h2 h3
  refine qa Tryz.func14 rfl _ Tryz.ntmps14 (Nat.le_of_ble_eq_true rfl) _ Tryz.results14 0 rfl rfl ?_
  repeat' (first | refine qe ?_ | (first | (refine jZ ?_) | refine xsQ Tryz.func12 (h1 ..) ?_ | refine xsQ Tryz.func18 (h2 ..) ?_ | refine xsQ Tryz.func18 (h3 ..) ?_ | refine xsQ Tryz.func21 (h4 ..) ?_) | ((first | refine qc ?_ ?_ | refine qb ?_ ?_ | refine xsC ?_ ?_); all_goals (intro hc; have hp := hc; try simp at hp; try (exfalso; omega))) | refine qw ?_ ?_)
  all_goals try (exfalso; simp_all; done)
  all_goals (apply jA; rfl; first | rfl | simp; done)
end Go.Proofs.YtiljlcgmcmjcoaaGreatDoor
set_option linter.unusedSimpArgs false
set_option linter.unnecessarySimpa false
set_option linter.unusedVariables false
set_option maxHeartbeats 1000000
namespace Go.Proofs.YtiljlcgmcmjcoaaGreatDoor
open Go.Ab Go.RowKit
set_option maxRecDepth 10000
attribute [local irreducible] Awp jV q9 qJ Red qy Go.Ab.Fin ql Rz yQ qA qG ResOk jC q6 jH qT
theorem qaW (h : Hub) (hl : h.fols.length ≤ 1000000000) (p : qB) : jY C.P 27 [zB h, .v (str p)] (.v (.int .i64 (yj (atF p) h.fols))) := by
  obtain ⟨F, G, U, now⟩ := h
  dsimp only at *
  refine qa Tryz.func27 rfl _ Tryz.ntmps27 (Nat.le_of_ble_eq_true rfl) _ Tryz.results27 0 rfl rfl ?_
  (repeat apply j0); apply jm; (repeat' (first | apply jL | refine zc ?_ | refine zd ?_ | refine zi ?_ | refine kV ?_ | refine za ?_ | refine ze ?_ | refine Qu ?_ | refine zl ?_ | (first | fail) | refine xl ?_)); show Awp _ _ _ _ _
  refine kf 2 0 ?_
  repeat' (first | refine qe ?_ | (first | fail) | ((first | refine xsC ?_ ?_); all_goals (intro hc; have hp := hc; try simp at hp; try (exfalso; omega))) | refine qw ?_ ?_)
  (refine Awp.red (qh (ts := [(2, .fp [Hub.row ⟨F, G, U, now⟩] 0 0), (1, .v (str p)), (5, .v (.int .i64 ((0 : Nat) : Int)))]) ?_) ?_; ((repeat (first | exact qd | refine qi ?_ | refine qR ?_ ?_))))
  refine qu (fun n σ => ∃ i : Nat, i ≤ F.length ∧ n = F.length - i ∧ (∀ s, s ∈ F.take i → atF p s = false) ∧ σ = ⟨[(2, .fp [Hub.row ⟨F, G, U, now⟩] 0 0), (1, .v (str p)), (5, .v (.int .i64 (i : Int)))], [], C.nh⟩) F.length ⟨0, Nat.zero_le _, rfl, (by simp), rfl⟩ ?_
  rintro n σ ⟨i, hi, rfl, hsofar, rfl⟩
  by_cases hlt : i < F.length
  · have hr := qF (f := Fol.row) hlt
    repeat' (first | refine qe ?_ | fail | ((first | refine xsC ?_ ?_); all_goals (intro hc; have hp := hc; try simp at hp; try (exfalso; omega))) | refine qw ?_ ?_)
    all_goals try (exfalso; omega)
    all_goals first
      | (apply qD; rfl; exact (vJ hlt hsofar (by simp_all [atF])).symm)
      | (have he : atF p F[i] = false := (by simp_all [atF])
         refine ⟨F.length - (i + 1), _, by omega, qh (ts := [(2, .fp [Hub.row ⟨F, G, U, now⟩] 0 0), (1, .v (str p)), (5, .v (.int .i64 ((i + 1 : Nat) : Int)))]) ?_, i + 1, by omega, rfl, qK hlt hsofar he, rfl⟩; ((repeat (first | exact qd | refine qi ?_ | refine qR ?_ ?_))))
  obtain rfl : i = F.length := by omega
  repeat' (first | refine qe ?_ | fail | ((first | refine xsC ?_ ?_); all_goals (intro hc; have hp := hc; try simp at hp; try (exfalso; omega))) | refine qw ?_ ?_)
  all_goals try (exfalso; omega)
  apply qD
  rfl
  exact (xY fun s hs => hsofar s (by rw [List.take_length]; exact hs)).symm
theorem qdT {t : List Fol} {p : qB} : decide (yj (atF p) t < 0) = !xr t p := by
  rcases xf (atF p) t with ⟨h1, h2⟩ | ⟨k, hk, h1, _, h3⟩
  · have : xr t p = false := List.any_eq_false.2 (fun x hx => by have := h2 x hx; simpa [atF] using this)
    rw [h1, this]; rfl
  · have : xr t p = true := List.any_eq_true.2 ⟨t[k], List.getElem_mem _, h3⟩
    rw [h1, this]
    simp
theorem qc0 {l : List Gra} {f : qB} : decide ((zf l f).length = 0) = !zD l f := by
  have : zf l f = [] ↔ zD l f = false := by
    rw [zD, List.any_eq_false]
    unfold zf
    simp [List.filter_eq_nil_iff, xI]
  by_cases h : zD l f = false
  · rw [h, this.2 h]; rfl
  · have h2 : zf l f ≠ [] := fun q => h (this.1 q)
    have h3 : zD l f = true := by simpa using h
    have h4 : (zf l f).length ≠ 0 := fun q => h2 (List.length_eq_zero_iff.1 q)
    simp [h3, h2]
theorem qdo {h : Hub} {k : Nat} (hk : k < h.fols.length) (hn : zD h.gras h.fols[k].name = false) : vu h = false := by
  unfold vu
  rw [Bool.and_eq_false_iff]
  right
  rw [List.all_eq_false]
  exact ⟨h.fols[k], List.getElem_mem _, by rw [hn]; decide⟩
theorem qdw {h : Hub} (h1 : ∀ g, g ∈ h.gras → xr h.fols g.folder = true) (h2 : ∀ s, s ∈ h.fols → zD h.gras s.name = true) : vu h = true := by
  unfold vu
  rw [Bool.and_eq_true, List.all_eq_true, List.all_eq_true]
  exact ⟨h1, h2⟩
set_option maxHeartbeats 4000000 in
theorem WI (h : Hub) (hb : HBig h) : jY C.P 17 [zB h] (.v (.int .i64 (vj h))) := by
  have e1 := @Zg h
  have e2 := @XQ h
  have e3 := @Vy h
  have e4 := @V9 h
  have hmn := @W8 h
  have hmo := @qdo h
  have hmy := @qdw h
  have hfa := fun p => qaW h hb.fols.len p
  have hgc := qcL h.gras hb.gras
  have huc := qej h.ups hb.ups
  have hfb := hb.fols
  have hml := hb.gras.len
  obtain ⟨F, G, U, now⟩ := h
  dsimp only at *
  have hll := hfb.len
  generalize hE : vj ⟨F, G, U, now⟩ = E at *
  clear hE hb
  by_cases hn : qz now 0 1099511627776 = true
  case neg =>
    have hn : qz now 0 1099511627776 = false := by simpa using hn
    rw [e1 hn]
    have hw : now < 0 ∨ 1099511627776 < now := by
      by_cases h1 : now < 0
      · exact .inl h1
      · refine .inr ?_
        unfold qz at hn
        simp at hn
        omega
    clear e1 e2 e3 e4 hmn hmo hmy hfa hgc huc hfb
    refine qa Tryz.func17 rfl _ Tryz.ntmps17 (Nat.le_of_ble_eq_true rfl) _ Tryz.results17 0 rfl rfl ?_
    (repeat apply j0); apply jm; (repeat' (first | apply jL | refine zc ?_ | refine zd ?_ | refine zi ?_ | refine kV ?_ | refine za ?_ | refine Qa ?_ | refine ze ?_ | refine Qu ?_ | refine wj ?_ | refine zl ?_ | (first | fail) | refine xl ?_ | refine x7 ?_ | refine xX ?_ | refine xb ?_ | refine y9 ?_ | refine zn ?_ | refine zr ?_ | refine x3 ?_ | refine x6 ?_ | ((first | refine qc ?_ ?_ | refine qb ?_ ?_); all_goals (intro hc; have hp := hc; try simp at hp; try (exfalso; omega))))); show Awp _ _ _ _ _
    refine kf 1 0 ?_
    repeat' (first | refine qe ?_ | (first | fail) | ((first | refine qc ?_ ?_ | refine qb ?_ ?_ | refine xsC ?_ ?_); all_goals (intro hc; have hp := hc; try simp at hp; try (exfalso; omega))) | refine qw ?_ ?_)
    all_goals try (exfalso; first | omega | contradiction)
    all_goals ((exact yv (rs := [.tmp 2])))
  obtain ⟨n0, n1⟩ := zI.1 hn
  by_cases h8 : 8 < F.length
  · rw [e2 hn h8]
    clear e1 e2 e3 e4 hmn hmo hmy hfa hgc huc hfb
    refine qa Tryz.func17 rfl _ Tryz.ntmps17 (Nat.le_of_ble_eq_true rfl) _ Tryz.results17 0 rfl rfl ?_
    (repeat apply j0); apply jm; (repeat' (first | apply jL | refine zc ?_ | refine zd ?_ | refine zi ?_ | refine kV ?_ | refine za ?_ | refine Qa ?_ | refine ze ?_ | refine Qu ?_ | refine wj ?_ | refine zl ?_ | (first | fail) | refine xl ?_ | refine x7 ?_ | refine xX ?_ | refine xb ?_ | refine y9 ?_ | refine zn ?_ | refine zr ?_ | refine x3 ?_ | refine x6 ?_ | ((first | refine qc ?_ ?_ | refine qb ?_ ?_); all_goals (intro hc; have hp := hc; try simp at hp; try (exfalso; omega))))); show Awp _ _ _ _ _
    refine kf 1 0 ?_
    repeat' (first | refine qe ?_ | (first | fail) | ((first | refine qc ?_ ?_ | refine qb ?_ ?_ | refine xsC ?_ ?_); all_goals (intro hc; have hp := hc; try simp at hp; try (exfalso; omega))) | refine qw ?_ ?_)
    all_goals try (exfalso; first | omega | contradiction)
    all_goals ((exact yv (rs := [.tmp 2])))
  have e3 := e3 hn h8
  have e4 := fun {k} => @e4 hn h8 k
  clear e1 e2
  refine qa Tryz.func17 rfl _ Tryz.ntmps17 (Nat.le_of_ble_eq_true rfl) _ Tryz.results17 0 rfl rfl ?_
  (repeat apply j0); apply jm; (repeat' (first | apply jL | refine zc ?_ | refine zd ?_ | refine zi ?_ | refine kV ?_ | refine za ?_ | refine Qa ?_ | refine ze ?_ | refine Qu ?_ | refine wj ?_ | refine zl ?_ | (first | fail) | refine xl ?_ | refine x7 ?_ | refine xX ?_ | refine xb ?_ | refine y9 ?_ | refine zn ?_ | refine zr ?_ | refine x3 ?_ | refine x6 ?_ | ((first | refine qc ?_ ?_ | refine qb ?_ ?_); all_goals (intro hc; have hp := hc; try simp at hp; try (exfalso; omega))))); show Awp _ _ _ _ _
  refine kf 1 0 ?_
  repeat' (first | refine qe ?_ | (first | fail) | ((first | refine qc ?_ ?_ | refine qb ?_ ?_ | refine xsC ?_ ?_); all_goals (intro hc; have hp := hc; try simp at hp; try (exfalso; omega))) | refine qw ?_ ?_)
  all_goals try (exfalso; first | omega | contradiction)
  (refine Awp.red (qh (ts := [(1, .fp [Hub.row ⟨F, G, U, now⟩] 0 0), (3, .v (.int .i64 ((0 : Nat) : Int)))]) ?_) ?_; ((repeat (first | exact qd | refine qi ?_ | refine qR ?_ ?_))))
  all_goals try (rw [List.length_map]; done)
  refine qu (fun n σ => ∃ i : Nat, i ≤ F.length ∧ n = F.length - i ∧ (∀ g, g ∈ F.take i → xo g = 0) ∧ σ = ⟨[(1, .fp [Hub.row ⟨F, G, U, now⟩] 0 0), (3, .v (.int .i64 (i : Int)))], [], C.nh⟩) F.length ⟨0, Nat.zero_le _, rfl, (by simp), rfl⟩ ?_
  rintro n σ ⟨i, hi, rfl, hsofar, rfl⟩
  by_cases hlt : i < F.length
  · have hr := qF (f := Fol.row) hlt
    have hsm := hfb.each F[i] (List.getElem_mem _)
    have hname := ZW F[i].name (by have := hsm.name; omega)
    have hjc := qen F[i].jou hsm.jou
    have hfe : xo F[i] = if qo F[i].name = true then xH F[i].jou else 1 := rfl
    cases hin : qo F[i].name with
    | false =>
      rw [hin] at hname hfe
      have hfe : xo F[i] = 1 := by rw [hfe]; simp
      rw [e4 hlt hsofar (by rw [hfe]; decide), hfe]
      clear e3 e4 hmn hmo hmy hfa hgc huc hfb
      repeat' (first | refine qe ?_ | (first | refine xsF Tryz.func25 (hname ..) ?_ | refine xsF Tryz.func41 (hjc ..) ?_) | ((first | refine qc ?_ ?_ | refine qb ?_ ?_ | refine xsC ?_ ?_); all_goals (intro hc; have hp := hc; try simp at hp; try (exfalso; omega))) | refine qw ?_ ?_)
      all_goals try (exfalso; first | omega | contradiction)
      all_goals ((exact yv (rs := [.tmp 2])))
    | true =>
      rw [hin] at hname hfe
      have hfe : xo F[i] = xH F[i].jou := by rw [hfe]; simp
      by_cases hz : xH F[i].jou = 0
      · rw [hz] at hjc hfe
        have hnx := qK (p := fun g => xo g = 0) hlt hsofar hfe
        clear e3 e4 hmn hmo hmy hfa hgc huc hfb
        repeat' (first | refine qe ?_ | (first | refine xsF Tryz.func25 (hname ..) ?_ | refine xsF Tryz.func41 (hjc ..) ?_) | ((first | refine qc ?_ ?_ | refine qb ?_ ?_ | refine xsC ?_ ?_); all_goals (intro hc; have hp := hc; try simp at hp; try (exfalso; omega))) | refine qw ?_ ?_)
        all_goals try (exfalso; first | omega | contradiction)
        refine ⟨F.length - (i + 1), _, by omega, qh (ts := [(1, .fp [Hub.row ⟨F, G, U, now⟩] 0 0), (3, .v (.int .i64 ((i + 1 : Nat) : Int)))]) ?_, i + 1, by omega, rfl, hnx, rfl⟩; ((repeat (first | exact qd | refine qi ?_ | refine qR ?_ ?_)))
      · rw [e4 hlt hsofar (by rw [hfe]; exact hz), hfe]
        clear e3 e4 hmn hmo hmy hfa hgc huc hfb hfe
        generalize xH F[i].jou = JE at *
        repeat' (first | refine qe ?_ | (first | refine xsF Tryz.func25 (hname ..) ?_ | refine xsF Tryz.func41 (hjc ..) ?_) | ((first | refine qc ?_ ?_ | refine qb ?_ ?_ | refine xsC ?_ ?_); all_goals (intro hc; have hp := hc; try simp at hp; try (exfalso; omega))) | refine qw ?_ ?_)
        all_goals try (exfalso; first | omega | contradiction)
        all_goals ((exact yv (rs := [.tmp 2])))
  obtain rfl : i = F.length := by omega
  have hz : jF xo F = 0 := jz.2 (fun s hs => hsofar s (by rw [List.take_length]; exact hs))
  rw [if_neg (fun q => q hz)] at e3
  clear hsofar e4
  repeat' (first | refine qe ?_ | fail | ((first | refine qc ?_ ?_ | refine qb ?_ ?_ | refine xsC ?_ ?_); all_goals (intro hc; have hp := hc; try simp at hp; try (exfalso; omega))) | refine qw ?_ ?_)
  all_goals try (exfalso; omega)
  (refine Awp.red (qh (ts := [(1, .fp [Hub.row ⟨F, G, U, now⟩] 0 0), (5, .v (.int .i64 ((0 + 1 : Nat) : Int)))]) ?_) ?_; ((repeat (first | exact qd | refine qi ?_ | refine qR ?_ ?_))))
  refine qu (fun n σ => ∃ i : Nat, i ≤ (F.drop 1).length ∧ n = (F.drop 1).length - i ∧ (∀ (k : Nat) (h : k + 1 < F.length), k < i → yE (F[k]'(by omega)) F[k + 1] = true) ∧ σ = ⟨[(1, .fp [Hub.row ⟨F, G, U, now⟩] 0 0), (5, .v (.int .i64 ((i + 1 : Nat) : Int)))], [], C.nh⟩) (F.drop 1).length ⟨0, Nat.zero_le _, rfl, (fun k h hk => absurd hk (Nat.not_lt_zero _)), rfl⟩ ?_
  have hdl : (F.drop 1).length = F.length - 1 := by simp
  rintro n σ ⟨i, hi, rfl, hsofar, rfl⟩
  by_cases hlt : i + 1 < F.length
  · have hr := qF (f := Fol.row) hlt
    have hr' := qF (f := Fol.row) (l := F) (i := i) (by omega)
    have hle := qce F[i] F[i + 1]
    have hnr : yE F[i] F[i + 1] = false → qr yE F = false := fun h => by
      cases hq : qr yE F
      · rfl
      · have := jT.1 hq i hlt
        rw [h] at this; cases this
    cases hfl : yE F[i] F[i + 1] with
    | false =>
      rw [if_pos (hnr hfl)] at e3
      rw [e3]
      rw [hfl] at hle
      clear e3 hmn hmo hmy hfa hgc huc hnr
      repeat' (first | refine qe ?_ | fail | ((first | refine qc ?_ ?_ | refine qb ?_ ?_ | refine xsC ?_ ?_); all_goals (intro hc; have hp := hc; try simp at hp; try (exfalso; omega))) | refine qw ?_ ?_)
      all_goals try (exfalso; first | omega | simp_all; done)
      all_goals ((exact yv (rs := [.tmp 2])))
    | true =>
      rw [hfl] at hle
      have hok := hfl
      clear e3 hmn hmo hmy hfa hgc huc hnr
      repeat' (first | refine qe ?_ | fail | ((first | refine qc ?_ ?_ | refine qb ?_ ?_ | refine xsC ?_ ?_); all_goals (intro hc; have hp := hc; try simp at hp; try (exfalso; omega))) | refine qw ?_ ?_)
      all_goals try (exfalso; first | omega | simp_all; done)
      refine ⟨(F.drop 1).length - (i + 1), _, by omega, qh (ts := [(1, .fp [Hub.row ⟨F, G, U, now⟩] 0 0), (5, .v (.int .i64 ((i + 1 + 1 : Nat) : Int)))]) ?_, i + 1, by omega, rfl, (fun k h hk => by
        by_cases e : k = i
        · subst e; exact hok
        · exact hsofar k h (by omega)), rfl⟩; ((repeat (first | exact qd | refine qi ?_ | refine qR ?_ ?_)))
  have hrise : qr yE F = true := jT.2 fun k h => hsofar k h (by simp at hi; omega)
  rw [if_neg (by rw [hrise]; decide)] at e3
  clear hsofar
  by_cases hg0 : jE G = 0
  case neg =>
    rw [if_pos hg0] at e3
    rw [e3]
    generalize jE G = GE at *
    clear hmn hmo hmy hfa huc e3
    repeat' (first | refine qe ?_ | (first | refine xsF Tryz.func42 (hgc ..) ?_) | ((first | refine qc ?_ ?_ | refine qb ?_ ?_ | refine xsC ?_ ?_); all_goals (intro hc; have hp := hc; try simp at hp; try (exfalso; omega))) | refine qw ?_ ?_)
    all_goals try (exfalso; first | omega | contradiction)
    all_goals ((exact yv (rs := [.tmp 2])))
  rw [if_neg (fun q => q hg0)] at e3
  rw [hg0] at hgc
  have hgl := vo hg0
  repeat' (first | refine qe ?_ | (first | refine xsF Tryz.func42 (hgc ..) ?_) | ((first | refine qc ?_ ?_ | refine qb ?_ ?_ | refine xsC ?_ ?_); all_goals (intro hc; have hp := hc; try simp at hp; try (exfalso; omega))) | refine qw ?_ ?_)
  all_goals try (exfalso; first | omega | contradiction)
  (refine Awp.red (qh (ts := [(1, .fp [Hub.row ⟨F, G, U, now⟩] 0 0), (7, .v (.int .i64 ((0 : Nat) : Int)))]) ?_) ?_; ((repeat (first | exact qd | refine qi ?_ | refine qR ?_ ?_))))
  refine qu (fun n σ => ∃ i : Nat, i ≤ G.length ∧ n = G.length - i ∧ (∀ g, g ∈ G.take i → xr F g.folder = true) ∧ σ = ⟨[(1, .fp [Hub.row ⟨F, G, U, now⟩] 0 0), (7, .v (.int .i64 (i : Int)))], [], C.nh⟩) G.length ⟨0, Nat.zero_le _, rfl, (by simp), rfl⟩ ?_
  rintro n σ ⟨i, hi, rfl, hsofar, rfl⟩
  by_cases hlt : i < G.length
  · have hr := qF (f := Gra.row) hlt
    have hf := hfa G[i].folder
    have hx := qdT (t := F) (p := G[i].folder)
    generalize yj (atF G[i].folder) F = K at *
    cases hh : xr F G[i].folder with
    | false =>
      rw [hmn hlt hh, if_pos rfl] at e3
      rw [e3]
      rw [hh] at hx
      have hx : K < 0 := by simpa using hx
      clear e3 hmn hmo hmy hfa huc
      repeat' (first | refine qe ?_ | (first | refine xsF Tryz.func27 (hf ..) ?_) | ((first | refine qc ?_ ?_ | refine qb ?_ ?_ | refine xsC ?_ ?_); all_goals (intro hc; have hp := hc; try simp at hp; try (exfalso; omega))) | refine qw ?_ ?_)
      all_goals try (exfalso; first | omega | contradiction)
      all_goals ((exact yv (rs := [.tmp 2])))
    | true =>
      rw [hh] at hx
      have hx : ¬ K < 0 := by simpa using hx
      clear e3 hmn hmo hmy hfa huc
      repeat' (first | refine qe ?_ | (first | refine xsF Tryz.func27 (hf ..) ?_) | ((first | refine qc ?_ ?_ | refine qb ?_ ?_ | refine xsC ?_ ?_); all_goals (intro hc; have hp := hc; try simp at hp; try (exfalso; omega))) | refine qw ?_ ?_)
      all_goals try (exfalso; first | omega | contradiction)
      refine ⟨G.length - (i + 1), _, by omega, qh (ts := [(1, .fp [Hub.row ⟨F, G, U, now⟩] 0 0), (7, .v (.int .i64 ((i + 1 : Nat) : Int)))]) ?_, i + 1, by omega, rfl, qK hlt hsofar hh, rfl⟩; ((repeat (first | exact qd | refine qi ?_ | refine qR ?_ ?_)))
  obtain rfl : i = G.length := by omega
  rw [List.take_length] at hsofar
  have hmy := hmy hsofar
  clear hsofar hmn hfa
  repeat' (first | refine qe ?_ | fail | ((first | refine qc ?_ ?_ | refine qb ?_ ?_ | refine xsC ?_ ?_); all_goals (intro hc; have hp := hc; try simp at hp; try (exfalso; omega))) | refine qw ?_ ?_)
  all_goals try (exfalso; omega)
  (refine Awp.red (qh (ts := [(1, .fp [Hub.row ⟨F, G, U, now⟩] 0 0), (8, .v (.int .i64 ((0 : Nat) : Int)))]) ?_) ?_; ((repeat (first | exact qd | refine qi ?_ | refine qR ?_ ?_))))
  refine qu (fun n σ => ∃ i : Nat, i ≤ F.length ∧ n = F.length - i ∧ (∀ s, s ∈ F.take i → zD G s.name = true) ∧ σ = ⟨[(1, .fp [Hub.row ⟨F, G, U, now⟩] 0 0), (8, .v (.int .i64 (i : Int)))], [], C.nh⟩) F.length ⟨0, Nat.zero_le _, rfl, (by simp), rfl⟩ ?_
  rintro n σ ⟨i, hi, rfl, hsofar, rfl⟩
  by_cases hlt : i < F.length
  · have hr := qF (f := Fol.row) hlt
    have hf := qfQ G F[i].name (by omega)
    have hx := qc0 (l := G) (f := F[i].name)
    generalize zf G F[i].name = K at *
    cases hh : zD G F[i].name with
    | false =>
      rw [hmo hlt hh, if_pos rfl] at e3
      rw [e3]
      rw [hh] at hx
      have hx : K = [] := by simpa using hx
      clear e3 hmo hmy huc
      repeat' (first | refine qe ?_ | (first | refine xsQ Tryz.func43 (hf ..) ?_) | ((first | refine qc ?_ ?_ | refine qb ?_ ?_ | refine xsC ?_ ?_); all_goals (intro hc; have hp := hc; try simp at hp; try (exfalso; omega))) | refine qw ?_ ?_)
      all_goals try (exfalso; first | omega | contradiction)
      all_goals ((exact yv (rs := [.tmp 2])))
    | true =>
      rw [hh] at hx
      have hx : ¬ K = [] := by simpa using hx
      clear e3 hmo hmy huc
      repeat' (first | refine qe ?_ | (first | refine xsQ Tryz.func43 (hf ..) ?_) | ((first | refine qc ?_ ?_ | refine qb ?_ ?_ | refine xsC ?_ ?_); all_goals (intro hc; have hp := hc; try simp at hp; try (exfalso; omega))) | refine qw ?_ ?_)
      all_goals try (exfalso; first | omega | contradiction)
      refine ⟨F.length - (i + 1), _, by omega, qh (ts := [(1, .fp [Hub.row ⟨F, G, U, now⟩] 0 0), (8, .v (.int .i64 ((i + 1 : Nat) : Int)))]) ?_, i + 1, by omega, rfl, qK hlt hsofar hh, rfl⟩; ((repeat (first | exact qd | refine qi ?_ | refine qR ?_ ?_)))
  obtain rfl : i = F.length := by omega
  rw [List.take_length] at hsofar
  rw [hmy hsofar, if_neg (by decide)] at e3
  rw [e3]
  clear e3 hmo hmy
  generalize yq U = UE at *
  repeat' (first | refine qe ?_ | (first | refine xsF Tryz.func13 (huc ..) ?_) | ((first | refine qc ?_ ?_ | refine qb ?_ ?_ | refine xsC ?_ ?_); all_goals (intro hc; have hp := hc; try simp at hp; try (exfalso; omega))) | refine qw ?_ ?_)
  all_goals try (exfalso; first | omega | contradiction)
  all_goals ((exact yv (rs := [.tmp 2])))
end Go.Proofs.YtiljlcgmcmjcoaaGreatDoor
set_option linter.unusedSimpArgs false
set_option linter.unnecessarySimpa false
set_option linter.unusedVariables false
set_option maxHeartbeats 1000000
namespace Go.Proofs.YtiljlcgmcmjcoaaGreatDoor
open Go.Ab Go.RowKit
set_option maxRecDepth 10000
attribute [local irreducible] Awp jV q9 qJ Red qy Go.Ab.Fin ql Rz yQ qA qG ResOk jC q6 jH qT
end Go.Proofs.YtiljlcgmcmjcoaaGreatDoor
set_option linter.unusedSimpArgs false
set_option linter.unnecessarySimpa false
set_option linter.unusedVariables false
set_option maxHeartbeats 1000000
namespace Go.Proofs.YtiljlcgmcmjcoaaGreatDoor
open Go.Ab Go.RowKit
set_option maxRecDepth 10000
attribute [local irreducible] Awp jV q9 qJ Red qy Go.Ab.Fin ql Rz yQ qA qG ResOk jC q6 jH qT
theorem qag (h : Hub) (hb : HBig h) : jY C.P 4 [zB h] (.v (.bool true)) := by
  have hg := qbo
  have h1 := Q6 h hb
  have h2 := WI h hb
  generalize vj h = E at *
  have d0 : decide (E = E) = true := by simp
  refine qa Tryz.func4 rfl _ Tryz.ntmps4 (Nat.le_of_ble_eq_true rfl) _ Tryz.results4 0 rfl rfl ?_
  repeat' (first | refine qe ?_ | (first | refine xsF Tryz.func14 (hg ..) ?_ | refine xsF Tryz.func16 (h1 ..) ?_ | refine xsF Tryz.func17 (h2 ..) ?_) | ((first | refine qc ?_ ?_ | refine qb ?_ ?_ | refine xsC ?_ ?_); all_goals (intro hc; have hp := hc; try simp at hp; try (exfalso; omega))) | refine qw ?_ ?_)
  all_goals try (exfalso; first | omega | contradiction | simp_all; done)
  all_goals (apply jA; rfl; first | rfl | simp; done)
end Go.Proofs.YtiljlcgmcmjcoaaGreatDoor
