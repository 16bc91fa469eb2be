import Derived.Test.YtiljlcgmcmjcoaaGreatDoorMz20
import Derived.Test.YtiljlcgmcmjcoaaGreatDoorMz22
import Derived.Test.YtiljlcgmcmjcoaaGreatDoorMz8
set_option linter.unusedSimpArgs false
set_option linter.unnecessarySimpa false
set_option linter.unusedVariables false
set_option maxHeartbeats 1000000
namespace Go.Proofs.YtiljlcgmcmjcoaaGreatDoor
open Go.Ab Go.RowKit
set_option maxRecDepth 10000
attribute [local irreducible] Awp jZ jg qJ Red qz Go.Ab.Fin qm Rz y0 qB qG ResOk jG q9 jK qV
theorem qcr (a b : Fol) : (Op.bytesLess b.name a.name || decide (b.name = a.name)) = !yM a b := by
  unfold yM
  rcases wg a.name b.name with ⟨h1, h2, h3⟩ | ⟨h1, h2, h3⟩ | ⟨h1, h2, h3⟩
  · have h4 : ¬ b.name = a.name := fun e => h3 e.symm
    simp [h1, h2, h4]
  · simp [h1, xH]
  · simp [h1, h2]
theorem Vp {h : Hub} (hn : qA h.now 0 1099511627776 = false) : xA h = 3 := by unfold xA; rw [if_pos hn]
theorem XG {h : Hub} (hn : qA h.now 0 1099511627776 = true) (h8 : 8 < h.fols.length) : xA h = 2 := by unfold xA; rw [if_neg (by rw [hn]; decide), if_pos h8]
theorem Zd {h : Hub} (hn : qA h.now 0 1099511627776 = true) (h8 : ¬ 8 < h.fols.length) : xA h = if ¬ jI xz h.fols = 0 then jI xz h.fols else if qt yM h.fols = false then 4 else if ¬ jH h.gras = 0 then jH h.gras else if vI h = false then 5 else yu h.ups := by unfold xA; rw [if_neg (by rw [hn]; decide), if_neg h8]
theorem VP {h : Hub} (hn : qA h.now 0 1099511627776 = true) (h8 : ¬ 8 < h.fols.length) {k : Nat} (hk : k < h.fols.length) (hs : ∀ g, g ∈ h.fols.take k → xz g = 0) (h0 : xz h.fols[k] ≠ 0) : xA h = xz h.fols[k] := by
  have h1 := zv hk hs h0
  rw [Zd hn h8, h1, if_pos h0]
set_option maxHeartbeats 4000000 in
theorem Jg (h : Hub) (hb : HBig h) : jT C.P 16 [vS h] (.v (.int .i64 (xA h))) := by
  have e1 := @Vp h
  have e2 := @XG h
  have e3 := @Zd h
  have e4 := @VP h
  have hma := fun h1 h2 h3 => qd7 h h1 h2 h3
  have hgc := QU h.gras hb.gras
  have huc := Vd h.ups hb.ups
  have hfb := hb.fols
  have hml := hb.gras.len
  obtain ⟨F, G, U, now⟩ := h
  dsimp only at *
  have hll := hfb.len
  generalize hE : xA ⟨F, G, U, now⟩ = E at *
  clear hE hb
  by_cases hn : qA now 0 1099511627776 = true
  case neg =>
    have hn : qA now 0 1099511627776 = false := by simpa using hn
    rw [e1 hn]
    have hw : now < 0 ∨ 1099511627776 < now := by
      by_cases h1 : now < 0
      · exact .inl h1
      · refine .inr ?_
        unfold qA at hn
        simp at hn
        omega
    clear e1 e2 e3 e4 hma hgc huc hfb
    refine qa Tryz.func16 rfl _ Tryz.ntmps16 (Nat.le_of_ble_eq_true rfl) _ Tryz.results16 0 rfl rfl ?_
    (repeat apply jP); apply jd; (repeat' (first | apply jz | refine vD ?_ | refine vB ?_ | refine vE ?_ | refine zJ ?_ | refine vC ?_ | refine kv ?_ | refine zj ?_ | refine kz ?_ | refine wc ?_ | refine ko ?_ | refine vF ?_ | refine vc ?_ | (first | fail) | refine yY ?_ | refine xi ?_ | refine xj ?_ | refine yE ?_ | refine yD ?_ | refine vn ?_ | refine vu ?_ | refine xh ?_ | refine xn ?_ | ((first | refine qb ?_ ?_ | refine qc ?_ ?_); all_goals (intro hc; have hp := hc; try simp at hp; try (exfalso; omega))))); show Awp _ _ _ _ _
    refine zD 1 0 ?_
    repeat' (first | refine qe ?_ | (first | fail) | ((first | refine qb ?_ ?_ | refine qc ?_ ?_ | refine xsC ?_ ?_); all_goals (intro hc; have hp := hc; try simp at hp; try (exfalso; omega))) | refine qv ?_ ?_)
    all_goals try (exfalso; first | omega | contradiction)
    all_goals ((exact yy (rs := [.tmp 2])))
  obtain ⟨n0, n1⟩ := vl.1 hn
  by_cases h8 : 8 < F.length
  · rw [e2 hn h8]
    clear e1 e2 e3 e4 hma hgc huc hfb
    refine qa Tryz.func16 rfl _ Tryz.ntmps16 (Nat.le_of_ble_eq_true rfl) _ Tryz.results16 0 rfl rfl ?_
    (repeat apply jP); apply jd; (repeat' (first | apply jz | refine vD ?_ | refine vB ?_ | refine vE ?_ | refine zJ ?_ | refine vC ?_ | refine kv ?_ | refine zj ?_ | refine kz ?_ | refine wc ?_ | refine ko ?_ | refine vF ?_ | refine vc ?_ | (first | fail) | refine yY ?_ | refine xi ?_ | refine xj ?_ | refine yE ?_ | refine yD ?_ | refine vn ?_ | refine vu ?_ | refine xh ?_ | refine xn ?_ | ((first | refine qb ?_ ?_ | refine qc ?_ ?_); all_goals (intro hc; have hp := hc; try simp at hp; try (exfalso; omega))))); show Awp _ _ _ _ _
    refine zD 1 0 ?_
    repeat' (first | refine qe ?_ | (first | fail) | ((first | refine qb ?_ ?_ | refine qc ?_ ?_ | refine xsC ?_ ?_); all_goals (intro hc; have hp := hc; try simp at hp; try (exfalso; omega))) | refine qv ?_ ?_)
    all_goals try (exfalso; first | omega | contradiction)
    all_goals ((exact yy (rs := [.tmp 2])))
  have e3 := e3 hn h8
  have e4 := fun {k} => @e4 hn h8 k
  clear e1 e2
  refine qa Tryz.func16 rfl _ Tryz.ntmps16 (Nat.le_of_ble_eq_true rfl) _ Tryz.results16 0 rfl rfl ?_
  (repeat apply jP); apply jd; (repeat' (first | apply jz | refine vD ?_ | refine vB ?_ | refine vE ?_ | refine zJ ?_ | refine vC ?_ | refine kv ?_ | refine zj ?_ | refine kz ?_ | refine wc ?_ | refine ko ?_ | refine vF ?_ | refine vc ?_ | (first | fail) | refine yY ?_ | refine xi ?_ | refine xj ?_ | refine yE ?_ | refine yD ?_ | refine vn ?_ | refine vu ?_ | refine xh ?_ | refine xn ?_ | ((first | refine qb ?_ ?_ | refine qc ?_ ?_); all_goals (intro hc; have hp := hc; try simp at hp; try (exfalso; omega))))); show Awp _ _ _ _ _
  refine zD 1 0 ?_
  repeat' (first | refine qe ?_ | (first | fail) | ((first | refine qb ?_ ?_ | refine qc ?_ ?_ | refine xsC ?_ ?_); all_goals (intro hc; have hp := hc; try simp at hp; try (exfalso; omega))) | refine qv ?_ ?_)
  all_goals try (exfalso; first | omega | contradiction)
  (refine Awp.red (qf (ts := [(1, .fp [Hub.row ⟨F, G, U, now⟩] 0 0), (23, wY F), (24, .v (.int .i64 F.length)), (25, .v (.int .i64 ((0 : Nat) : Int)))]) ?_) ?_; ((repeat (first | exact qd | refine qi ?_ | refine qL ?_ ?_))))
  all_goals try (rw [List.length_map]; done)
  refine qr (fun n σ => ∃ i : Nat, i ≤ F.length ∧ n = F.length - i ∧ (∀ g, g ∈ F.take i → xz g = 0) ∧ σ = ⟨[(1, .fp [Hub.row ⟨F, G, U, now⟩] 0 0), (23, wY F), (24, .v (.int .i64 F.length)), (25, .v (.int .i64 (i : Int)))], [], C.nh⟩) F.length ⟨0, Nat.zero_le _, rfl, (by simp), rfl⟩ ?_
  rintro n σ ⟨i, hi, rfl, hsofar, rfl⟩
  by_cases hlt : i < F.length
  · have hr := qx (f := Fol.row) hlt
    have hsm := hfb.each F[i] (List.getElem_mem _)
    have hname := xM F[i].name (jQ hsm.name)
    have hjc := qft F[i].jou hsm.jou
    have hfe : xz F[i] = if qo F[i].name = true then xX F[i].jou else 1 := rfl
    cases hin : qo F[i].name with
    | false =>
      rw [hin] at hname hfe
      have hfe : xz F[i] = 1 := by rw [hfe]; simp
      rw [e4 hlt hsofar (by rw [hfe]; decide), hfe]
      clear e3 e4 hma hgc huc hfb
      repeat' (first | refine qe ?_ | (first | refine xsF Tryz.func37 (hname ..) ?_ | refine xsF Tryz.func38 (hjc ..) ?_) | ((first | refine qb ?_ ?_ | refine qc ?_ ?_ | refine xsC ?_ ?_); all_goals (intro hc; have hp := hc; try simp at hp; try (exfalso; omega))) | refine qv ?_ ?_)
      all_goals try (exfalso; first | omega | contradiction)
      all_goals ((exact yy (rs := [.tmp 2])))
    | true =>
      rw [hin] at hname hfe
      have hfe : xz F[i] = xX F[i].jou := by rw [hfe]; simp
      by_cases hz : xX F[i].jou = 0
      · rw [hz] at hjc hfe
        have hnx := qK (p := fun g => xz g = 0) hlt hsofar hfe
        clear e3 e4 hma hgc huc hfb
        repeat' (first | refine qe ?_ | (first | refine xsF Tryz.func37 (hname ..) ?_ | refine xsF Tryz.func38 (hjc ..) ?_) | ((first | refine qb ?_ ?_ | refine qc ?_ ?_ | refine xsC ?_ ?_); all_goals (intro hc; have hp := hc; try simp at hp; try (exfalso; omega))) | refine qv ?_ ?_)
        all_goals try (exfalso; first | omega | contradiction)
        refine ⟨F.length - (i + 1), _, by omega, qf (ts := [(1, .fp [Hub.row ⟨F, G, U, now⟩] 0 0), (23, wY F), (24, .v (.int .i64 F.length)), (25, .v (.int .i64 ((i + 1 : Nat) : Int)))]) ?_, i + 1, by omega, rfl, hnx, rfl⟩; ((repeat (first | exact qd | refine qi ?_ | refine qL ?_ ?_)))
      · rw [e4 hlt hsofar (by rw [hfe]; exact hz), hfe]
        clear e3 e4 hma hgc huc hfb hfe
        generalize xX F[i].jou = JE at *
        repeat' (first | refine qe ?_ | (first | refine xsF Tryz.func37 (hname ..) ?_ | refine xsF Tryz.func38 (hjc ..) ?_) | ((first | refine qb ?_ ?_ | refine qc ?_ ?_ | refine xsC ?_ ?_); all_goals (intro hc; have hp := hc; try simp at hp; try (exfalso; omega))) | refine qv ?_ ?_)
        all_goals try (exfalso; first | omega | contradiction)
        all_goals ((exact yy (rs := [.tmp 2])))
  obtain rfl : i = F.length := by omega
  have hz : jI xz F = 0 := jE.2 (fun s hs => hsofar s (by rw [List.take_length]; exact hs))
  rw [if_neg (fun q => q hz)] at e3
  clear hsofar e4 hfb
  repeat' (first | refine qe ?_ | fail | ((first | refine qb ?_ ?_ | refine qc ?_ ?_ | refine xsC ?_ ?_); all_goals (intro hc; have hp := hc; try simp at hp; try (exfalso; omega))) | refine qv ?_ ?_)
  all_goals try (exfalso; omega)
  (refine Awp.red (qf (ts := [(1, .fp [Hub.row ⟨F, G, U, now⟩] 0 0), (6, .v (.int .i64 ((0 + 1 : Nat) : Int)))]) ?_) ?_; ((repeat (first | exact qd | refine qi ?_ | refine qL ?_ ?_))))
  refine qr (fun n σ => ∃ i : Nat, i ≤ (F.drop 1).length ∧ n = (F.drop 1).length - i ∧ (∀ (k : Nat) (h : k + 1 < F.length), k < i → yM (F[k]'(by omega)) F[k + 1] = true) ∧ σ = ⟨[(1, .fp [Hub.row ⟨F, G, U, now⟩] 0 0), (6, .v (.int .i64 ((i + 1 : Nat) : Int)))], [], C.nh⟩) (F.drop 1).length ⟨0, Nat.zero_le _, rfl, (fun k h hk => absurd hk (Nat.not_lt_zero _)), rfl⟩ ?_
  have hdl : (F.drop 1).length = F.length - 1 := by simp
  rintro n σ ⟨i, hi, rfl, hsofar, rfl⟩
  by_cases hlt : i + 1 < F.length
  · have hr := qx (f := Fol.row) hlt
    have hr' := qx (f := Fol.row) (l := F) (i := i) (by omega)
    have hle := qcr F[i] F[i + 1]
    have hnr : yM F[i] F[i + 1] = false → qt yM F = false := fun h => by
      cases hq : qt yM F
      · rfl
      · have := jW.1 hq i hlt
        rw [h] at this; cases this
    cases hfl : yM F[i] F[i + 1] with
    | false =>
      rw [if_pos (hnr hfl)] at e3
      rw [e3]
      rw [hfl] at hle
      clear e3 hma hgc huc hnr
      repeat' (first | refine qe ?_ | fail | ((first | refine qb ?_ ?_ | refine qc ?_ ?_ | refine xsC ?_ ?_); all_goals (intro hc; have hp := hc; try simp at hp; try (exfalso; omega))) | refine qv ?_ ?_)
      all_goals try (exfalso; first | omega | simp_all; done)
      all_goals ((exact yy (rs := [.tmp 2])))
    | true =>
      rw [hfl] at hle
      have hok := hfl
      clear e3 hma hgc huc hnr
      repeat' (first | refine qe ?_ | fail | ((first | refine qb ?_ ?_ | refine qc ?_ ?_ | refine xsC ?_ ?_); all_goals (intro hc; have hp := hc; try simp at hp; try (exfalso; omega))) | refine qv ?_ ?_)
      all_goals try (exfalso; first | omega | simp_all; done)
      refine ⟨(F.drop 1).length - (i + 1), _, by omega, qf (ts := [(1, .fp [Hub.row ⟨F, G, U, now⟩] 0 0), (6, .v (.int .i64 ((i + 1 + 1 : Nat) : Int)))]) ?_, i + 1, by omega, rfl, (fun k h hk => by
        by_cases e : k = i
        · subst e; exact hok
        · exact hsofar k h (by omega)), rfl⟩; ((repeat (first | exact qd | refine qi ?_ | refine qL ?_ ?_)))
  have hrise : qt yM F = true := jW.2 fun k h => hsofar k h (by simp at hi; omega)
  rw [if_neg (by rw [hrise]; decide)] at e3
  clear hsofar
  rw [e3]
  clear e3
  by_cases hg0 : jH G = 0
  case neg =>
    rw [if_pos hg0]
    generalize jH G = GE at *
    clear hma huc
    repeat' (first | refine qe ?_ | (first | refine xsF Tryz.func39 (hgc ..) ?_) | ((first | refine qb ?_ ?_ | refine qc ?_ ?_ | refine xsC ?_ ?_); all_goals (intro hc; have hp := hc; try simp at hp; try (exfalso; omega))) | refine qv ?_ ?_)
    all_goals try (exfalso; first | omega | contradiction)
    all_goals ((exact yy (rs := [.tmp 2])))
  rw [if_neg (fun q => q hg0)]
  rw [hg0] at hgc
  have hma := hma (by omega) (by have := vK hg0; omega) hrise
  cases hmm : vI ⟨F, G, U, now⟩ with
  | false =>
    rw [hmm] at hma
    rw [if_pos rfl]
    clear huc
    repeat' (first | refine qe ?_ | (first | refine xsF Tryz.func39 (hgc ..) ?_ | refine xsF Tryz.func40 (hma ..) ?_) | ((first | refine qb ?_ ?_ | refine qc ?_ ?_ | refine xsC ?_ ?_); all_goals (intro hc; have hp := hc; try simp at hp; try (exfalso; omega))) | refine qv ?_ ?_)
    all_goals try (exfalso; first | omega | contradiction)
    all_goals ((exact yy (rs := [.tmp 2])))
  | true =>
    rw [hmm] at hma
    rw [if_neg (by decide)]
    generalize yu U = UE at *
    repeat' (first | refine qe ?_ | (first | refine xsF Tryz.func39 (hgc ..) ?_ | refine xsF Tryz.func40 (hma ..) ?_ | refine xsF Tryz.func31 (huc ..) ?_) | ((first | refine qb ?_ ?_ | refine qc ?_ ?_ | refine xsC ?_ ?_); all_goals (intro hc; have hp := hc; try simp at hp; try (exfalso; omega))) | refine qv ?_ ?_)
    all_goals try (exfalso; first | omega | contradiction)
    all_goals ((exact yy (rs := [.tmp 2])))
end Go.Proofs.YtiljlcgmcmjcoaaGreatDoor
set_option linter.unusedSimpArgs false
set_option linter.unnecessarySimpa false
set_option linter.unusedVariables false
set_option maxHeartbeats 1000000
namespace Go.Proofs.YtiljlcgmcmjcoaaGreatDoor
open Go.Ab Go.RowKit
set_option maxRecDepth 10000
attribute [local irreducible] Awp jZ jg qJ Red qz Go.Ab.Fin qm Rz y0 qB qG ResOk jG q9 jK qV
def qh9 (r : Pag × Int) : AV := .tup [.agg r.1.row, .v (.int .i64 r.2)]
theorem qdM {α : Type} {f : α → List AV} {l : List α} {k m : Nat} : (((((l.map f).take (l.map f).length).drop k).take m).drop 0) = ((l.drop k).take m).map f := by
  rw [List.take_length]; simp
theorem qhz (j : Jou) (cursor most : Int) (hb : JBig j) : jT C.P 124 [.agg j.row, .v (.int .i64 cursor), .v (.int .i64 most)] (qh9 (YW j cursor most)) := by
  have ho := Xl j hb
  have hmj : (j.coms.map Com.row).length = j.coms.length := List.length_map ..
  by_cases hz : xX j = 0
  · rw [YX hz] at ho
    have hJ := y5.1 hz
    have hlen := hJ.len
    have hlo := hJ.lo
    have hhi := hJ.hi
    have hN := hJ.now
    have hlast := Vi j (xV j) hJ
    have hce := kP (xV j) (by have := hN.len; omega)
    have hE : YW j cursor most = X4 j cursor most := by unfold YW; rw [if_neg (by simp [hz])]
    have hL : x5 j = j.first + j.coms.length - 1 := rfl
    have hfew := kQ hJ.base hJ.run
    have hrk : ∀ row, row ∈ j.coms.map Com.row → row.length = 3 := fun row hr => by obtain ⟨x, _, rfl⟩ := List.mem_map.1 hr; rfl
    rw [hE]
    unfold X4
    clear hE hz
    generalize xV j = U at *
    generalize x5 j = LN at *
    by_cases h1 : most < 1 ∨ 10 < most ∨ cursor < 0
    · rw [if_pos h1]
      refine qa Tryz.func124 rfl _ Tryz.ntmps124 (Nat.le_of_ble_eq_true rfl) _ Tryz.results124 0 rfl rfl ?_
      (repeat apply jP); apply jd; (repeat' (first | apply jz | refine vD ?_ | refine vB ?_ | refine vE ?_ | refine zJ ?_ | refine vC ?_ | refine kv ?_ | refine zj ?_ | refine wX ?_ | refine YZ ?_ | refine QK ?_ | refine ko ?_ | refine vF ?_ | refine vc ?_ | (first | fail) | refine yY ?_ | refine xi ?_ | refine xj ?_ | refine yE ?_ | refine yD ?_ | refine vn ?_ | refine vu ?_ | refine xh ?_ | refine xn ?_ | ((first | refine qb ?_ ?_ | refine qc ?_ ?_); all_goals (intro hc; have hp := hc; try simp at hp; try (exfalso; omega))))); show Awp _ _ _ _ _
      refine zD 3 0 ?_
      repeat' (first | refine qe ?_ | (first | refine xsQ Tryz.func74 (ho ..) ?_ | refine xsF Tryz.func152 (hlast ..) ?_ | refine xsQ Tryz.func101 (hce ..) ?_ | fail) | ((first | refine qb ?_ ?_ | refine qc ?_ ?_ | refine xsC ?_ ?_); all_goals (intro hc; have hp := hc; try simp at hp; try (exfalso; omega))) | refine qv ?_ ?_)
      (all_goals try (exfalso; first | omega | contradiction))
      all_goals ((exact yy (rs := [.cell 6 44, .tmp 7])))
    · rw [if_neg h1]
      by_cases h2 : LN < cursor
      · rw [if_pos h2]
        refine qa Tryz.func124 rfl _ Tryz.ntmps124 (Nat.le_of_ble_eq_true rfl) _ Tryz.results124 0 rfl rfl ?_
        (repeat apply jP); apply jd; (repeat' (first | apply jz | refine vD ?_ | refine vB ?_ | refine vE ?_ | refine zJ ?_ | refine vC ?_ | refine kv ?_ | refine zj ?_ | refine wX ?_ | refine YZ ?_ | refine QK ?_ | refine ko ?_ | refine vF ?_ | refine vc ?_ | (first | fail) | refine yY ?_ | refine xi ?_ | refine xj ?_ | refine yE ?_ | refine yD ?_ | refine vn ?_ | refine vu ?_ | refine xh ?_ | refine xn ?_ | ((first | refine qb ?_ ?_ | refine qc ?_ ?_); all_goals (intro hc; have hp := hc; try simp at hp; try (exfalso; omega))))); show Awp _ _ _ _ _
        refine zD 3 0 ?_
        repeat' (first | refine qe ?_ | (first | refine xsQ Tryz.func74 (ho ..) ?_ | refine xsF Tryz.func152 (hlast ..) ?_ | refine xsQ Tryz.func101 (hce ..) ?_ | fail) | ((first | refine qb ?_ ?_ | refine qc ?_ ?_ | refine xsC ?_ ?_); all_goals (intro hc; have hp := hc; try simp at hp; try (exfalso; omega))) | refine qv ?_ ?_)
        (all_goals try (exfalso; first | omega | contradiction))
        all_goals ((exact yy (rs := [.cell 6 44, .tmp 7])))
      · rw [if_neg h2]
        by_cases h3 : cursor < j.first - 1
        · rw [if_pos h3]
          refine qa Tryz.func124 rfl _ Tryz.ntmps124 (Nat.le_of_ble_eq_true rfl) _ Tryz.results124 0 rfl rfl ?_
          (repeat apply jP); apply jd; (repeat' (first | apply jz | refine vD ?_ | refine vB ?_ | refine vE ?_ | refine zJ ?_ | refine vC ?_ | refine kv ?_ | refine zj ?_ | refine wX ?_ | refine YZ ?_ | refine QK ?_ | refine ko ?_ | refine vF ?_ | refine vc ?_ | (first | fail) | refine yY ?_ | refine xi ?_ | refine xj ?_ | refine yE ?_ | refine yD ?_ | refine vn ?_ | refine vu ?_ | refine xh ?_ | refine xn ?_ | ((first | refine qb ?_ ?_ | refine qc ?_ ?_); all_goals (intro hc; have hp := hc; try simp at hp; try (exfalso; omega))))); show Awp _ _ _ _ _
          refine zD 3 0 ?_
          repeat' (first | refine qe ?_ | (first | refine xsQ Tryz.func74 (ho ..) ?_ | refine xsF Tryz.func152 (hlast ..) ?_ | refine xsQ Tryz.func101 (hce ..) ?_ | fail) | ((first | refine qb ?_ ?_ | refine qc ?_ ?_ | refine xsC ?_ ?_); all_goals (intro hc; have hp := hc; try simp at hp; try (exfalso; omega))) | refine qv ?_ ?_)
          (all_goals try (exfalso; first | omega | contradiction))
          all_goals ((exact yy (rs := [.cell 6 44, .tmp 7])))
        · rw [if_neg h3]
          have hP : qaF j cursor most = (j.coms.drop (cursor - j.first + 1).toNat).take most.toNat := rfl
          generalize qaF j cursor most = X at *
          obtain ⟨k, hk⟩ : ∃ k : Nat, k = (cursor - j.first + 1).toNat := ⟨_, rfl⟩
          obtain ⟨m, hm⟩ : ∃ m : Nat, m = min (j.coms.length - k) most.toNat := ⟨_, rfl⟩
          have hX : X = (j.coms.drop k).take m := by rw [hP, ← hk, hm, List.take_eq_take_min]; simp [Nat.min_comm]
          clear hP
          have hxl : X.length = m := by rw [hX]; simp; omega
          have hcl : qm C.P 153 [.sl false (((((j.coms.map Com.row).take (j.coms.map Com.row).length).drop k).take m).drop 0)] [] (.os 0 0 X.length) [.own false 3 (X.map Com.row)] := by
            rw [qdM, ← hX]
            exact Yo X (by omega) (fun c hc => by have := hfew c (by rw [hX] at hc; exact List.mem_of_mem_drop (List.mem_of_mem_take hc)); omega)
          have hdl : (((j.coms.map Com.row).take (j.coms.map Com.row).length).drop k).length = j.coms.length - k := by simp
          refine qa Tryz.func124 rfl _ Tryz.ntmps124 (Nat.le_of_ble_eq_true rfl) _ Tryz.results124 0 rfl rfl ?_
          (repeat apply jP); apply jd; (repeat' (first | apply jz | refine vD ?_ | refine vB ?_ | refine vE ?_ | refine zJ ?_ | refine vC ?_ | refine kv ?_ | refine zj ?_ | refine wX ?_ | refine YZ ?_ | refine QK ?_ | refine ko ?_ | refine vF ?_ | refine vc ?_ | (first | fail) | refine yY ?_ | refine xi ?_ | refine xj ?_ | refine yE ?_ | refine yD ?_ | refine vn ?_ | refine vu ?_ | refine xh ?_ | refine xn ?_ | ((first | refine qb ?_ ?_ | refine qc ?_ ?_); all_goals (intro hc; have hp := hc; try simp at hp; try (exfalso; omega))))); show Awp _ _ _ _ _
          refine zD 3 0 ?_
          repeat' (first | refine qe ?_ | (first | refine xsQ Tryz.func74 (ho ..) ?_ | refine xsF Tryz.func152 (hlast ..) ?_ | refine xsQ Tryz.func101 (hce ..) ?_ | (apply qj; apply qhB; (case hx => rfl); (case hy => rfl); (case hN => exact nle rfl)) | (apply qj; apply zn (ex' := false) (a := k) (b := (j.coms.map Com.row).length) (m := 0); (case hx => rfl); (case hT => rfl); (case he => rfl); (case hE => rfl); (case ha => exact ⟨_, Ya (by omega)⟩); (case hb => rfl); (case hm => trivial); (case hab => (rw [hmj]; omega)); (case hbl => exact Nat.le_refl _); (case hrk => exact hrk); (case hex => exact nofun); (case hN => exact nle rfl)) | (apply qj; apply zn (ex' := false) (a := 0) (b := m) (m := 0); (case hx => rfl); (case hT => rfl); (case he => rfl); (case hE => rfl); (case ha => rfl); (case hb => exact ⟨_, Ya (by rw [hdl]; omega)⟩); (case hm => trivial); (case hab => exact Nat.zero_le _); (case hbl => (rw [hdl]; omega)); (case hrk => (intro row hr; exact hrk row (List.mem_of_mem_take (List.mem_of_mem_drop hr)))); (case hex => exact nofun); (case hN => exact nle rfl)) | (apply qH Tryz.func153 rfl rfl; intro hIsFn; refine yb ([]) hIsFn (hcl ..) ?_)) | ((first | refine qb ?_ ?_ | refine qc ?_ ?_ | refine xsC ?_ ?_); all_goals (intro hc; have hp := hc; try simp at hp; try (exfalso; omega))) | refine qv ?_ ?_)
          (all_goals try (exfalso; first | omega | contradiction))
          all_goals ((exact yy (rs := [.cell 6 44, .tmp 7])))
  · rw [V2 hz] at ho
    unfold YW
    rw [if_pos hz]
    generalize xX j = E at *
    refine qa Tryz.func124 rfl _ Tryz.ntmps124 (Nat.le_of_ble_eq_true rfl) _ Tryz.results124 0 rfl rfl ?_
    repeat' (first | refine qe ?_ | (first | refine xsQ Tryz.func74 (ho ..) ?_) | ((first | refine qb ?_ ?_ | refine qc ?_ ?_ | refine xsC ?_ ?_); all_goals (intro hc; have hp := hc; try simp at hp; try (exfalso; omega))) | refine qv ?_ ?_)
    all_goals try (exfalso; omega)
    all_goals ((exact yy (rs := [.cell 6 44, .tmp 7])))
end Go.Proofs.YtiljlcgmcmjcoaaGreatDoor
set_option linter.unusedSimpArgs false
set_option linter.unnecessarySimpa false
set_option linter.unusedVariables false
set_option maxHeartbeats 1000000
namespace Go.Proofs.YtiljlcgmcmjcoaaGreatDoor
open Go.Ab Go.RowKit
set_option maxRecDepth 10000
attribute [local irreducible] Awp jZ jg qJ Red qz Go.Ab.Fin qm Rz y0 qB qG ResOk jG q9 jK qV
theorem qdj (c : Com) (key : qC) : jT C.P 159 [.agg c.row, .fp [[.v (str key)]] 0 0] (.v (.bool (isK key c))) := by
  refine qa Tryz.func159 rfl _ Tryz.ntmps159 (Nat.le_of_ble_eq_true rfl) _ Tryz.results159 0 rfl rfl ?_
  repeat' (first | refine qe ?_ | fail | ((first | refine xsC ?_ ?_); all_goals (intro hc; have hp := hc; try simp at hp; try (exfalso; omega))) | refine qv ?_ ?_)
  all_goals (apply qU; rfl; rfl)
theorem qeq (p : Com → Bool) (g : FuncId) (hg : IsFn C.P g) (cap : List AV) (hcap : AV.pure.pureL cap = true) (l : List (Com)) (hl : l.length ≤ 1000000) (hc : ∀ s, s ∈ l → jT C.P g ((AV.agg (Com.row s)) :: cap) (.v (.bool (p s)))) :
    jT C.P 158 [.sl false (l.map Com.row), .clo (.func g) [] cap] (.v (.int .i64 (yg p l))) := by
  refine qa Tryz.func158 rfl _ Tryz.ntmps158 (Nat.le_of_ble_eq_true rfl) _ Tryz.results158 0 rfl rfl ?_
  repeat' (first | refine qe ?_ | fail | ((first | refine xsC ?_ ?_); all_goals (intro hc; have hp := hc; try simp at hp; try (exfalso; omega))) | refine qv ?_ ?_)
  (refine Awp.red (qf (ts := [(0, .sl false (l.map Com.row)), (1, .clo (.func g) [] cap), (7, .v (.int .i64 l.length)), (8, .v (.int .i64 ((0 : Nat) : Int)))]) ?_) ?_; ((repeat (first | exact qd | refine qi ?_ | refine qL ?_ ?_))))
  all_goals try (rw [List.length_map]; done)
  refine qr (fun n σ => ∃ i : Nat, i ≤ l.length ∧ n = l.length - i ∧ (∀ s, s ∈ l.take i → p s = false) ∧ σ = ⟨[(0, .sl false (l.map Com.row)), (1, .clo (.func g) [] cap), (7, .v (.int .i64 l.length)), (8, .v (.int .i64 (i : Int)))], [], C.nh⟩) l.length ⟨0, Nat.zero_le _, rfl, (by simp), rfl⟩ ?_
  rintro n σ ⟨i, hi, rfl, hsofar, rfl⟩
  by_cases hlt : i < l.length
  · have hr := qx (f := Com.row) hlt
    have hci := hc l[i] (List.getElem_mem _)
    repeat' (first | refine qe ?_ | (first | (apply qj; apply zK []; rfl; exact hg; exact hci; (case hz => exact ql (qM rfl) (kj hcap)); (case hfl => rfl); (case hN => exact nle rfl))) | ((first | refine xsC ?_ ?_); all_goals (intro hc; have hp := hc; try simp at hp; try (exfalso; omega))) | refine qv ?_ ?_)
    all_goals try (exfalso; omega)
    · apply qE
      rfl
      exact (vV hlt hsofar hp).symm
    · refine ⟨l.length - (i + 1), _, by omega, qf (ts := [(0, .sl false (l.map Com.row)), (1, .clo (.func g) [] cap), (7, .v (.int .i64 l.length)), (8, .v (.int .i64 ((i + 1 : Nat) : Int)))]) ?_, i + 1, by omega, rfl, qK hlt hsofar hp, rfl⟩; ((repeat (first | exact qd | refine qi ?_ | refine qL ?_ ?_)))
  obtain rfl : i = l.length := by omega
  repeat' (first | refine qe ?_ | fail | ((first | refine xsC ?_ ?_); all_goals (intro hc; have hp := hc; try simp at hp; try (exfalso; omega))) | refine qv ?_ ?_)
  all_goals try (exfalso; omega)
  apply qE
  rfl
  exact (xU fun s hs => hsofar s (by rw [List.take_length]; exact hs)).symm
theorem VX (l : List Com) (key : qC) (hl : l.length ≤ 1000000) : jT C.P 158 [zu l, .clo (.func 159) [] [.fp [[.v (str key)]] 0 0]] (.v (.int .i64 (yg (isK key) l))) :=
  qeq (isK key) 159 (jJ Tryz.func159 rfl rfl) [.fp [[.v (str key)]] 0 0] rfl l hl (fun c _ => qdj c key)
def qgJ (r : Jou × Int × Int) : AV := .tup [.agg r.1.row, .v (.int .i64 r.2.1), .v (.int .i64 r.2.2)]
theorem qdl {d c : Com} {r : List Com} {x : List AV} {n n0 : Nat} (hx : x = c.row) (hn0 : n0 = r.length + 1) (hn : n = r.length + 1) : ((((d :: r).map Com.row).take n0 ++ [x]).drop 1).take n = (((d :: r) ++ [c]).drop 1).map Com.row := by
  subst hx; subst hn; subst hn0
  rw [List.take_of_length_le (l := (d :: r).map Com.row) (by simp)]
  simp [List.take_of_length_le]
theorem Vn (j : Jou) (key : qC) (l : List Chg) (hb : JBig j) (hcb : CBig l) (hJ : JRight j) (hkk : vX key = true) (hf : j.coms.find? (isK key) = none) (hl0 : ¬ l = []) (hbig : ¬ 1000000 < ym j) (hz : (vq (ym j) (xV j) l).2.2 = 0) (h31 : ¬ 30 < j.coms.length + 1) :
    jT C.P 129 [.agg j.row, .v (str key), xo l] (qgJ (kD j ⟨ym j, key, l⟩, ym j, 0)) := by
  have hll := hcb.len
  have hml : (l.map Chg.row).length = l.length := List.length_map ..
  have hmj : (j.coms.map Com.row).length = j.coms.length := List.length_map ..
  have ho := Xl j hb
  rw [YX (y5.2 hJ)] at ho
  have hk := Vg key
  rw [hkk] at hk
  have hlen := hJ.len
  have hN := hJ.now
  have hlast := Vi j (xV j) hJ
  have hcl := Yo j.coms (by omega) (fun c hc => by have := kQ hJ.base hJ.run c hc; omega)
  have hce := kP j.base (by have := hJ.base.len; omega)
  have hidx := VX j.coms key (by omega)
  have hi : yg (isK key) j.coms = -1 := by
    rcases Qk (isK key) j.coms with ⟨hi, _⟩ | ⟨k, hkl, hi, hf2⟩
    · exact hi
    · rw [hf] at hf2; cases hf2
  rw [hi] at hidx
  have hLb : 0 ≤ x5 j ∧ x5 j ≤ 1000030 := by have := hJ.lo; have := hJ.hi; unfold x5; omega
  have hall := qa8 (xV j) l (ym j) hN.big hcb
  have hl1 : ¬ l.length = 0 := fun e => hl0 (List.eq_nil_of_length_eq_zero e)
  have hcc := Js l (by have := VI hN hz; omega)
  have hp31 : kD j ⟨ym j, key, l⟩ = if 30 < j.coms.length + 1 then ⟨match j.coms with | [] => j.base | d :: _ => (vq j.first j.base d.chs).1, j.first + 1, (j.coms ++ [(⟨ym j, key, l⟩ : Com)]).drop 1⟩ else ⟨j.base, j.first, j.coms ++ [(⟨ym j, key, l⟩ : Com)]⟩ := rfl
  generalize kD j ⟨ym j, key, l⟩ = PJ at *
  generalize vq (ym j) (xV j) l = A at *
  obtain ⟨t1, n1, e1⟩ := A
  have hz : e1 = 0 := hz
  subst hz
  generalize hnx : ym j = NX at *
  have hnx2 : NX = x5 j + 1 := hnx.symm
  clear hnx
  generalize x5 j = LN at *
  subst hnx2
  generalize xV j = U at *
  rw [if_neg h31] at hp31
  subst hp31
  refine qa Tryz.func129 rfl _ Tryz.ntmps129 (Nat.le_of_ble_eq_true rfl) _ Tryz.results129 0 rfl rfl ?_
  (repeat apply jP); apply jd; (repeat' (first | apply jz | refine vD ?_ | refine vB ?_ | refine vE ?_ | refine zJ ?_ | refine vC ?_ | refine zj ?_ | refine kz ?_ | refine wc ?_ | refine wX ?_ | refine QY ?_ | refine YZ ?_ | refine QK ?_ | refine ko ?_ | refine vF ?_ | refine vc ?_ | (first | fail) | refine yY ?_)); show Awp _ _ _ _ _
  refine zD 3 0 ?_
  refine zD 4 1 ?_
  repeat' (first | refine qe ?_ | (first | refine xsQ Tryz.func74 (ho ..) ?_ | refine xsF Tryz.func118 (hk ..) ?_ | refine xsQ Tryz.func101 (hce ..) ?_ | (apply qH Tryz.func153 rfl rfl; intro hIsFn; refine yb ([]) hIsFn (hcl ..) ?_) | refine xsF Tryz.func158 (hidx ..) ?_ | refine xsF Tryz.func152 (hlast ..) ?_ | refine xsQ Tryz.func119 (hall ..) ?_ | refine xsQ Tryz.func122 (hcc ..) ?_ | (refine j4 ?_) | (refine xK ?_)) | ((first | refine xsC ?_ ?_); all_goals (intro hc; have hp := hc; try simp at hp; try (exfalso; omega))) | refine qv ?_ ?_)
  (all_goals try (exfalso; first | omega | contradiction))
  all_goals ((refine yP (rs := [.cell 6 60, .tmp 7, .tmp 8]) ?_; (repeat' (first | exact qT | apply ql | exact qM rfl | exact yC | exact zB | apply j8 | apply yI | apply j3 | apply yJ | apply yj | apply yK | refine zA ?_ | apply xG)); all_goals (rw [List.take_of_length_le (by simp), List.map_append]; rfl)))
theorem V7 (j : Jou) (key : qC) (l : List Chg) (hb : JBig j) (hcb : CBig l) (hJ : JRight j) (hkk : vX key = true) (hf : j.coms.find? (isK key) = none) (hl0 : ¬ l = []) (hbig : ¬ 1000000 < ym j) (hz : (vq (ym j) (xV j) l).2.2 = 0) (h31 : 30 < j.coms.length + 1) :
    jT C.P 129 [.agg j.row, .v (str key), xo l] (qgJ (kD j ⟨ym j, key, l⟩, ym j, 0)) := by
  have hll := hcb.len
  have hml : (l.map Chg.row).length = l.length := List.length_map ..
  have hmj : (j.coms.map Com.row).length = j.coms.length := List.length_map ..
  have ho := Xl j hb
  rw [YX (y5.2 hJ)] at ho
  have hk := Vg key
  rw [hkk] at hk
  have hlen := hJ.len
  have hN := hJ.now
  have hlast := Vi j (xV j) hJ
  have hcl := Yo j.coms (by omega) (fun c hc => by have := kQ hJ.base hJ.run c hc; omega)
  have hce := kP j.base (by have := hJ.base.len; omega)
  have hidx := VX j.coms key (by omega)
  have hi : yg (isK key) j.coms = -1 := by
    rcases Qk (isK key) j.coms with ⟨hi, _⟩ | ⟨k, hkl, hi, hf2⟩
    · exact hi
    · rw [hf] at hf2; cases hf2
  rw [hi] at hidx
  have hLb : 0 ≤ x5 j ∧ x5 j ≤ 1000030 := by have := hJ.lo; have := hJ.hi; unfold x5; omega
  have hall := qa8 (xV j) l (ym j) hN.big hcb
  have hl1 : ¬ l.length = 0 := fun e => hl0 (List.eq_nil_of_length_eq_zero e)
  have hcc := Js l (by have := VI hN hz; omega)
  have hp31 : kD j ⟨ym j, key, l⟩ = if 30 < j.coms.length + 1 then ⟨match j.coms with | [] => j.base | d :: _ => (vq j.first j.base d.chs).1, j.first + 1, (j.coms ++ [(⟨ym j, key, l⟩ : Com)]).drop 1⟩ else ⟨j.base, j.first, j.coms ++ [(⟨ym j, key, l⟩ : Com)]⟩ := rfl
  generalize kD j ⟨ym j, key, l⟩ = PJ at *
  generalize vq (ym j) (xV j) l = A at *
  obtain ⟨t1, n1, e1⟩ := A
  have hz : e1 = 0 := hz
  subst hz
  generalize hnx : ym j = NX at *
  have hnx2 : NX = x5 j + 1 := hnx.symm
  clear hnx
  generalize x5 j = LN at *
  subst hnx2
  generalize xV j = U at *
  rw [if_pos h31] at hp31
  subst hp31
  obtain ⟨jb, jf, jc⟩ := j
  cases jc with
  | nil => exact absurd h31 (by simp)
  | cons d r =>
    obtain ⟨q1, q2, -⟩ := wo hJ.run
    have q4 := (wR q1).1
    have hall2 := qa8 jb d.chs jf hJ.base.big (hb.coms.each d (List.mem_cons_self ..)).chs
    have hjl := hJ.lo
    have hjh := hJ.hi
    dsimp only at *
    have hlen2 : r.length + 1 ≤ 30 := by simpa using hlen
    have h31b : 30 < r.length + 1 + 1 := by simpa using h31
    have hjl3 : 1 ≤ (Jou.mk jb jf (d :: r)).first := hjl
    have hjh3 : (Jou.mk jb jf (d :: r)).first ≤ 1000000 := hjh
    rw [q4] at q2
    generalize vq jf jb d.chs = T2 at *
    obtain ⟨t2, n2, e2⟩ := T2
    have q2 : e2 = 0 := q2
    subst q2
    clear hJ hb hi hf q1 q4
    refine qa Tryz.func129 rfl _ Tryz.ntmps129 (Nat.le_of_ble_eq_true rfl) _ Tryz.results129 0 rfl rfl ?_
    (repeat apply jP); apply jd; (repeat' (first | apply jz | refine vD ?_ | refine vB ?_ | refine vE ?_ | refine zJ ?_ | refine vC ?_ | refine zj ?_ | refine kz ?_ | refine wc ?_ | refine wX ?_ | refine QY ?_ | refine YZ ?_ | refine QK ?_ | refine ko ?_ | refine vF ?_ | refine vc ?_ | (first | fail) | refine yY ?_)); show Awp _ _ _ _ _
    refine zD 3 0 ?_
    refine zD 4 1 ?_
    repeat' (first | refine qe ?_ | (first | refine xsQ Tryz.func74 (ho ..) ?_ | refine xsF Tryz.func118 (hk ..) ?_ | refine xsQ Tryz.func101 (hce ..) ?_ | (apply qH Tryz.func153 rfl rfl; intro hIsFn; refine yb ([]) hIsFn (hcl ..) ?_) | refine xsF Tryz.func158 (hidx ..) ?_ | refine xsF Tryz.func152 (hlast ..) ?_ | refine xsQ Tryz.func119 (hall ..) ?_ | refine xsQ Tryz.func122 (hcc ..) ?_ | (refine j4 ?_) | (refine xK ?_) | (refine vz ?_) | (refine Ji ?_) | refine xsQ Tryz.func119 (hall2 ..) ?_) | ((first | refine xsC ?_ ?_); all_goals (intro hc; have hp := hc; try simp at hp; try (exfalso; omega))) | refine qv ?_ ?_)
    (all_goals try (exfalso; first | omega | contradiction))
    all_goals ((refine yP (rs := [.cell 6 60, .tmp 7, .tmp 8]) ?_; (repeat' (first | (exact qh2 (qdl (n0 := (d :: r).length) rfl (by simp) (by simp)) (ju fun _ => rfl) (by simp; try omega)) | exact qT | apply ql | exact qM rfl | exact yC | exact zB | apply j8 | apply yI | apply j3 | apply yJ | apply yj | apply yK | refine zA ?_ | apply xG)); all_goals trace_state))
theorem ZR (j : Jou) (key : qC) (l : List Chg) (hb : JBig j) (hcb : CBig l) (hJ : JRight j) (hkk : vX key = true) (hf : j.coms.find? (isK key) = none) (hl0 : ¬ l = []) (hbig : ¬ 1000000 < ym j) (hz : (vq (ym j) (xV j) l).2.2 = 0) :
    jT C.P 129 [.agg j.row, .v (str key), xo l] (qgJ (kD j ⟨ym j, key, l⟩, ym j, 0)) := by
  by_cases h31 : 30 < j.coms.length + 1
  · exact V7 j key l hb hcb hJ hkk hf hl0 hbig hz h31
  · exact Vn j key l hb hcb hJ hkk hf hl0 hbig hz h31
theorem qfP (j : Jou) (key : qC) (l : List Chg) (hb : JBig j) (hcb : CBig l) : jT C.P 129 [.agg j.row, .v (str key), xo l] (qgJ (yV j key l)) := by
  have ho := Xl j hb
  have hk := Vg key
  have hll := hcb.len
  have hml : (l.map Chg.row).length = l.length := List.length_map ..
  have hmj : (j.coms.map Com.row).length = j.coms.length := List.length_map ..
  by_cases hz : xX j = 0
  · rw [YX hz] at ho
    have hJ := y5.1 hz
    have hlen := hJ.len
    have hE : yV j key l = vw j key l := by unfold yV; rw [if_neg (by simp [hz])]
    have hN := hJ.now
    have hlast := Vi j (xV j) hJ
    have hcl := Yo j.coms (by omega) (fun c hc => by have := kQ hJ.base hJ.run c hc; omega)
    have hce := kP j.base (by have := hJ.base.len; omega)
    rw [hE]
    unfold vw
    cases hkk : vX key with
    | false =>
      rw [hkk] at hk
      rw [if_pos rfl]
      clear hE hlast hcl hce
      generalize xV j = U at *
      refine qa Tryz.func129 rfl _ Tryz.ntmps129 (Nat.le_of_ble_eq_true rfl) _ Tryz.results129 0 rfl rfl ?_
      repeat' (first | refine qe ?_ | (first | refine xsQ Tryz.func74 (ho ..) ?_ | refine xsF Tryz.func118 (hk ..) ?_) | ((first | refine xsC ?_ ?_); all_goals (intro hc; have hp := hc; try simp at hp; try (exfalso; omega))) | refine qv ?_ ?_)
      all_goals try (exfalso; omega)
      all_goals ((exact yy (rs := [.cell 6 60, .tmp 7, .tmp 8])))
    | true =>
      rw [hkk] at hk
      rw [if_neg (by decide)]
      have hidx := VX j.coms key (by omega)
      rcases Qk (isK key) j.coms with ⟨hi, hf⟩ | ⟨k, hkl, hi, hf⟩
      · rw [hf]
        rw [hi] at hidx
        simp only
        have hidx2 := trivial
        have hLb : 0 ≤ x5 j ∧ x5 j ≤ 1000030 := by have := hJ.lo; have := hJ.hi; unfold x5; omega
        have hall := qa8 (xV j) l (ym j) hN.big hcb
        have hnx : ym j = x5 j + 1 := rfl
        have hpush := ZR j key l hb hcb hJ hkk hf
        generalize kD j ⟨ym j, key, l⟩ = PJ at *
        generalize hAA : vq (ym j) (xV j) l = A at *
        rw [hnx] at *
        clear hE
        by_cases hl0 : l = []
        · subst hl0
          rw [if_pos rfl]
          generalize xV j = U at *
          generalize x5 j = LN at *
          refine qa Tryz.func129 rfl _ Tryz.ntmps129 (Nat.le_of_ble_eq_true rfl) _ Tryz.results129 0 rfl rfl ?_
          (repeat apply jP); apply jd; (repeat' (first | apply jz | refine vD ?_ | refine vB ?_ | refine vE ?_ | refine zJ ?_ | refine vC ?_ | refine zj ?_ | refine kz ?_ | refine wc ?_ | refine wX ?_ | refine QY ?_ | refine YZ ?_ | refine QK ?_ | refine ko ?_ | refine vF ?_ | refine vc ?_ | (first | fail) | refine yY ?_)); show Awp _ _ _ _ _
          refine zD 3 0 ?_
          refine zD 4 1 ?_
          repeat' (first | refine qe ?_ | (first | refine xsQ Tryz.func74 (ho ..) ?_ | refine xsF Tryz.func118 (hk ..) ?_ | refine xsQ Tryz.func101 (hce ..) ?_ | (apply qH Tryz.func153 rfl rfl; intro hIsFn; refine yb ([]) hIsFn (hcl ..) ?_) | refine xsF Tryz.func158 (hidx ..) ?_ | refine xsF Tryz.func152 (hlast ..) ?_ | refine xsQ Tryz.func119 (hall ..) ?_ | fail) | ((first | refine xsC ?_ ?_); all_goals (intro hc; have hp := hc; try simp at hp; try (exfalso; omega))) | refine qv ?_ ?_)
          (all_goals try (exfalso; first | omega | contradiction))
          all_goals ((exact yy (rs := [.cell 6 60, .tmp 7, .tmp 8])))
        · rw [if_neg hl0]
          have hl1 : ¬ l.length = 0 := fun e => hl0 (List.eq_nil_of_length_eq_zero e)
          by_cases hbig : 1000000 < x5 j + 1
          · rw [if_pos hbig]
            generalize xV j = U at *
            generalize x5 j = LN at *
            refine qa Tryz.func129 rfl _ Tryz.ntmps129 (Nat.le_of_ble_eq_true rfl) _ Tryz.results129 0 rfl rfl ?_
            (repeat apply jP); apply jd; (repeat' (first | apply jz | refine vD ?_ | refine vB ?_ | refine vE ?_ | refine zJ ?_ | refine vC ?_ | refine zj ?_ | refine kz ?_ | refine wc ?_ | refine wX ?_ | refine QY ?_ | refine YZ ?_ | refine QK ?_ | refine ko ?_ | refine vF ?_ | refine vc ?_ | (first | fail) | refine yY ?_)); show Awp _ _ _ _ _
            refine zD 3 0 ?_
            refine zD 4 1 ?_
            repeat' (first | refine qe ?_ | (first | refine xsQ Tryz.func74 (ho ..) ?_ | refine xsF Tryz.func118 (hk ..) ?_ | refine xsQ Tryz.func101 (hce ..) ?_ | (apply qH Tryz.func153 rfl rfl; intro hIsFn; refine yb ([]) hIsFn (hcl ..) ?_) | refine xsF Tryz.func158 (hidx ..) ?_ | refine xsF Tryz.func152 (hlast ..) ?_ | refine xsQ Tryz.func119 (hall ..) ?_ | fail) | ((first | refine xsC ?_ ?_); all_goals (intro hc; have hp := hc; try simp at hp; try (exfalso; omega))) | refine qv ?_ ?_)
            (all_goals try (exfalso; first | omega | contradiction))
            all_goals ((exact yy (rs := [.cell 6 60, .tmp 7, .tmp 8])))
          · rw [if_neg hbig]
            obtain ⟨t1, n1, e1⟩ := A
            by_cases he1 : e1 = 0
            · subst he1
              rw [if_neg (by simp)]
              exact hpush hl0 hbig rfl
            · rw [if_pos he1]
              generalize xV j = U at *
              generalize x5 j = LN at *
              refine qa Tryz.func129 rfl _ Tryz.ntmps129 (Nat.le_of_ble_eq_true rfl) _ Tryz.results129 0 rfl rfl ?_
              (repeat apply jP); apply jd; (repeat' (first | apply jz | refine vD ?_ | refine vB ?_ | refine vE ?_ | refine zJ ?_ | refine vC ?_ | refine zj ?_ | refine kz ?_ | refine wc ?_ | refine wX ?_ | refine QY ?_ | refine YZ ?_ | refine QK ?_ | refine ko ?_ | refine vF ?_ | refine vc ?_ | (first | fail) | refine yY ?_)); show Awp _ _ _ _ _
              refine zD 3 0 ?_
              refine zD 4 1 ?_
              repeat' (first | refine qe ?_ | (first | refine xsQ Tryz.func74 (ho ..) ?_ | refine xsF Tryz.func118 (hk ..) ?_ | refine xsQ Tryz.func101 (hce ..) ?_ | (apply qH Tryz.func153 rfl rfl; intro hIsFn; refine yb ([]) hIsFn (hcl ..) ?_) | refine xsF Tryz.func158 (hidx ..) ?_ | refine xsF Tryz.func152 (hlast ..) ?_ | refine xsQ Tryz.func119 (hall ..) ?_ | fail) | ((first | refine xsC ?_ ?_); all_goals (intro hc; have hp := hc; try simp at hp; try (exfalso; omega))) | refine qv ?_ ?_)
              (all_goals try (exfalso; first | omega | contradiction))
              all_goals ((exact yy (rs := [.cell 6 60, .tmp 7, .tmp 8])))
      · rw [hf]
        rw [hi] at hidx
        have hr := qx (f := Com.row) hkl
        simp only
        clear hE
        generalize xV j = U at *
        refine qa Tryz.func129 rfl _ Tryz.ntmps129 (Nat.le_of_ble_eq_true rfl) _ Tryz.results129 0 rfl rfl ?_
        (repeat apply jP); apply jd; (repeat' (first | apply jz | refine vD ?_ | refine vB ?_ | refine vE ?_ | refine zJ ?_ | refine vC ?_ | refine zj ?_ | refine kz ?_ | refine wc ?_ | refine wX ?_ | refine QY ?_ | refine YZ ?_ | refine QK ?_ | refine ko ?_ | refine vF ?_ | refine vc ?_ | (first | fail) | refine yY ?_)); show Awp _ _ _ _ _
        refine zD 3 0 ?_
        refine zD 4 1 ?_
        repeat' (first | refine qe ?_ | (first | refine xsQ Tryz.func74 (ho ..) ?_ | refine xsF Tryz.func118 (hk ..) ?_ | refine xsQ Tryz.func101 (hce ..) ?_ | (apply qH Tryz.func153 rfl rfl; intro hIsFn; refine yb ([]) hIsFn (hcl ..) ?_) | refine xsF Tryz.func158 (hidx ..) ?_) | ((first | refine xsC ?_ ?_); all_goals (intro hc; have hp := hc; try simp at hp; try (exfalso; omega))) | refine qv ?_ ?_)
        all_goals try (exfalso; omega)
        all_goals ((exact yy (rs := [.cell 6 60, .tmp 7, .tmp 8])))
  · rw [V2 hz] at ho
    unfold yV
    rw [if_pos hz]
    generalize xX j = E at *
    refine qa Tryz.func129 rfl _ Tryz.ntmps129 (Nat.le_of_ble_eq_true rfl) _ Tryz.results129 0 rfl rfl ?_
    repeat' (first | refine qe ?_ | (first | refine xsQ Tryz.func74 (ho ..) ?_) | ((first | refine xsC ?_ ?_); all_goals (intro hc; have hp := hc; try simp at hp; try (exfalso; omega))) | refine qv ?_ ?_)
    all_goals try (exfalso; omega)
    all_goals ((exact yy (rs := [.cell 6 60, .tmp 7, .tmp 8])))
end Go.Proofs.YtiljlcgmcmjcoaaGreatDoor
set_option linter.unusedSimpArgs false
set_option linter.unnecessarySimpa false
set_option linter.unusedVariables false
set_option maxHeartbeats 1000000
namespace Go.Proofs.YtiljlcgmcmjcoaaGreatDoor
open Go.Ab Go.RowKit
set_option maxRecDepth 10000
attribute [local irreducible] Awp jZ jg qJ Red qz Go.Ab.Fin qm Rz y0 qB qG ResOk jG q9 jK qV
end Go.Proofs.YtiljlcgmcmjcoaaGreatDoor
