import Derived.Test.YtiljlcgmcmjcoaaGreatDoorMz20
import Derived.Test.YtiljlcgmcmjcoaaGreatDoorMz22
import Derived.Test.YtiljlcgmcmjcoaaGreatDoorMz8
set_option linter.unusedSimpArgs false
set_option linter.unnecessarySimpa false
set_option linter.unusedVariables false
set_option maxHeartbeats 1000000
namespace Go.Proofs.YtiljlcgmcmjcoaaGreatDoor
open Go.Ab Go.RowKit
set_option maxRecDepth 10000
attribute [local irreducible] Awp jV q9 qJ Red qy Go.Ab.Fin ql Rz yQ qA qG ResOk jC q6 jH qT
theorem qce (a b : Fol) : (Op.bytesLess b.name a.name || decide (b.name = a.name)) = !yE a b := by
  unfold yE
  rcases wc a.name b.name with ⟨h1, h2, h3⟩ | ⟨h1, h2, h3⟩ | ⟨h1, h2, h3⟩
  · have h4 : ¬ b.name = a.name := fun e => h3 e.symm
    simp [h1, h2, h4]
  · simp [h1, xu]
  · simp [h1, h2]
theorem Zg {h : Hub} (hn : qz h.now 0 1099511627776 = false) : vj h = 3 := by unfold vj; rw [if_pos hn]
theorem XQ {h : Hub} (hn : qz h.now 0 1099511627776 = true) (h8 : 8 < h.fols.length) : vj h = 2 := by unfold vj; rw [if_neg (by rw [hn]; decide), if_pos h8]
theorem Vy {h : Hub} (hn : qz h.now 0 1099511627776 = true) (h8 : ¬ 8 < h.fols.length) : vj h = if ¬ jF xo h.fols = 0 then jF xo h.fols else if qr yE h.fols = false then 4 else if ¬ jE h.gras = 0 then jE h.gras else if vu h = false then 5 else yq h.ups := by unfold vj; rw [if_neg (by rw [hn]; decide), if_neg h8]
theorem V9 {h : Hub} (hn : qz h.now 0 1099511627776 = true) (h8 : ¬ 8 < h.fols.length) {k : Nat} (hk : k < h.fols.length) (hs : ∀ g, g ∈ h.fols.take k → xo g = 0) (h0 : xo h.fols[k] ≠ 0) : vj h = xo h.fols[k] := by
  have h1 := vZ hk hs h0
  rw [Vy hn h8, h1, if_pos h0]
set_option maxHeartbeats 4000000 in
theorem Q6 (h : Hub) (hb : HBig h) : jY C.P 16 [zB h] (.v (.int .i64 (vj h))) := by
  have e1 := @Zg h
  have e2 := @XQ h
  have e3 := @Vy h
  have e4 := @V9 h
  have hma := fun h1 h2 h3 => qc9 h h1 h2 h3
  have hgc := QH h.gras hb.gras
  have huc := X5 h.ups hb.ups
  have hfb := hb.fols
  have hml := hb.gras.len
  obtain ⟨F, G, U, now⟩ := h
  dsimp only at *
  have hll := hfb.len
  generalize hE : vj ⟨F, G, U, now⟩ = E at *
  clear hE hb
  by_cases hn : qz now 0 1099511627776 = true
  case neg =>
    have hn : qz now 0 1099511627776 = false := by simpa using hn
    rw [e1 hn]
    have hw : now < 0 ∨ 1099511627776 < now := by
      by_cases h1 : now < 0
      · exact .inl h1
      · refine .inr ?_
        unfold qz at hn
        simp at hn
        omega
    clear e1 e2 e3 e4 hma hgc huc hfb
    refine qa Tryz.func16 rfl _ Tryz.ntmps16 (Nat.le_of_ble_eq_true rfl) _ Tryz.results16 0 rfl rfl ?_
    (repeat apply j0); apply jm; (repeat' (first | apply jL | refine zc ?_ | refine zd ?_ | refine zi ?_ | refine kV ?_ | refine za ?_ | refine Qa ?_ | refine ze ?_ | refine Qu ?_ | refine wj ?_ | refine wI ?_ | refine zl ?_ | refine vH ?_ | (first | fail) | refine xl ?_ | refine x7 ?_ | refine xX ?_ | refine xb ?_ | refine y9 ?_ | refine zn ?_ | refine zr ?_ | refine x3 ?_ | refine x6 ?_ | ((first | refine qc ?_ ?_ | refine qb ?_ ?_); all_goals (intro hc; have hp := hc; try simp at hp; try (exfalso; omega))))); show Awp _ _ _ _ _
    refine kf 1 0 ?_
    repeat' (first | refine qe ?_ | (first | fail) | ((first | refine qc ?_ ?_ | refine qb ?_ ?_ | refine xsC ?_ ?_); all_goals (intro hc; have hp := hc; try simp at hp; try (exfalso; omega))) | refine qw ?_ ?_)
    all_goals try (exfalso; first | omega | contradiction)
    all_goals ((exact yv (rs := [.tmp 2])))
  obtain ⟨n0, n1⟩ := zI.1 hn
  by_cases h8 : 8 < F.length
  · rw [e2 hn h8]
    clear e1 e2 e3 e4 hma hgc huc hfb
    refine qa Tryz.func16 rfl _ Tryz.ntmps16 (Nat.le_of_ble_eq_true rfl) _ Tryz.results16 0 rfl rfl ?_
    (repeat apply j0); apply jm; (repeat' (first | apply jL | refine zc ?_ | refine zd ?_ | refine zi ?_ | refine kV ?_ | refine za ?_ | refine Qa ?_ | refine ze ?_ | refine Qu ?_ | refine wj ?_ | refine wI ?_ | refine zl ?_ | refine vH ?_ | (first | fail) | refine xl ?_ | refine x7 ?_ | refine xX ?_ | refine xb ?_ | refine y9 ?_ | refine zn ?_ | refine zr ?_ | refine x3 ?_ | refine x6 ?_ | ((first | refine qc ?_ ?_ | refine qb ?_ ?_); all_goals (intro hc; have hp := hc; try simp at hp; try (exfalso; omega))))); show Awp _ _ _ _ _
    refine kf 1 0 ?_
    repeat' (first | refine qe ?_ | (first | fail) | ((first | refine qc ?_ ?_ | refine qb ?_ ?_ | refine xsC ?_ ?_); all_goals (intro hc; have hp := hc; try simp at hp; try (exfalso; omega))) | refine qw ?_ ?_)
    all_goals try (exfalso; first | omega | contradiction)
    all_goals ((exact yv (rs := [.tmp 2])))
  have e3 := e3 hn h8
  have e4 := fun {k} => @e4 hn h8 k
  clear e1 e2
  refine qa Tryz.func16 rfl _ Tryz.ntmps16 (Nat.le_of_ble_eq_true rfl) _ Tryz.results16 0 rfl rfl ?_
  (repeat apply j0); apply jm; (repeat' (first | apply jL | refine zc ?_ | refine zd ?_ | refine zi ?_ | refine kV ?_ | refine za ?_ | refine Qa ?_ | refine ze ?_ | refine Qu ?_ | refine wj ?_ | refine wI ?_ | refine zl ?_ | refine vH ?_ | (first | fail) | refine xl ?_ | refine x7 ?_ | refine xX ?_ | refine xb ?_ | refine y9 ?_ | refine zn ?_ | refine zr ?_ | refine x3 ?_ | refine x6 ?_ | ((first | refine qc ?_ ?_ | refine qb ?_ ?_); all_goals (intro hc; have hp := hc; try simp at hp; try (exfalso; omega))))); show Awp _ _ _ _ _
  refine kf 1 0 ?_
  repeat' (first | refine qe ?_ | (first | fail) | ((first | refine qc ?_ ?_ | refine qb ?_ ?_ | refine xsC ?_ ?_); all_goals (intro hc; have hp := hc; try simp at hp; try (exfalso; omega))) | refine qw ?_ ?_)
  all_goals try (exfalso; first | omega | contradiction)
  (refine Awp.red (qh (ts := [(1, .fp [Hub.row ⟨F, G, U, now⟩] 0 0), (23, wO F), (24, .v (.int .i64 F.length)), (25, .v (.int .i64 ((0 : Nat) : Int)))]) ?_) ?_; ((repeat (first | exact qd | refine qi ?_ | refine qR ?_ ?_))))
  all_goals try (rw [List.length_map]; done)
  refine qu (fun n σ => ∃ i : Nat, i ≤ F.length ∧ n = F.length - i ∧ (∀ g, g ∈ F.take i → xo g = 0) ∧ σ = ⟨[(1, .fp [Hub.row ⟨F, G, U, now⟩] 0 0), (23, wO F), (24, .v (.int .i64 F.length)), (25, .v (.int .i64 (i : Int)))], [], C.nh⟩) F.length ⟨0, Nat.zero_le _, rfl, (by simp), rfl⟩ ?_
  rintro n σ ⟨i, hi, rfl, hsofar, rfl⟩
  by_cases hlt : i < F.length
  · have hr := qF (f := Fol.row) hlt
    have hsm := hfb.each F[i] (List.getElem_mem _)
    have hname := xA F[i].name (jN hsm.name)
    have hjc := qfc F[i].jou hsm.jou
    have hfe : xo F[i] = if qo F[i].name = true then xH F[i].jou else 1 := rfl
    cases hin : qo F[i].name with
    | false =>
      rw [hin] at hname hfe
      have hfe : xo F[i] = 1 := by rw [hfe]; simp
      rw [e4 hlt hsofar (by rw [hfe]; decide), hfe]
      clear e3 e4 hma hgc huc hfb
      repeat' (first | refine qe ?_ | (first | refine xsF Tryz.func37 (hname ..) ?_ | refine xsF Tryz.func38 (hjc ..) ?_) | ((first | refine qc ?_ ?_ | refine qb ?_ ?_ | refine xsC ?_ ?_); all_goals (intro hc; have hp := hc; try simp at hp; try (exfalso; omega))) | refine qw ?_ ?_)
      all_goals try (exfalso; first | omega | contradiction)
      all_goals ((exact yv (rs := [.tmp 2])))
    | true =>
      rw [hin] at hname hfe
      have hfe : xo F[i] = xH F[i].jou := by rw [hfe]; simp
      by_cases hz : xH F[i].jou = 0
      · rw [hz] at hjc hfe
        have hnx := qK (p := fun g => xo g = 0) hlt hsofar hfe
        clear e3 e4 hma hgc huc hfb
        repeat' (first | refine qe ?_ | (first | refine xsF Tryz.func37 (hname ..) ?_ | refine xsF Tryz.func38 (hjc ..) ?_) | ((first | refine qc ?_ ?_ | refine qb ?_ ?_ | refine xsC ?_ ?_); all_goals (intro hc; have hp := hc; try simp at hp; try (exfalso; omega))) | refine qw ?_ ?_)
        all_goals try (exfalso; first | omega | contradiction)
        refine ⟨F.length - (i + 1), _, by omega, qh (ts := [(1, .fp [Hub.row ⟨F, G, U, now⟩] 0 0), (23, wO F), (24, .v (.int .i64 F.length)), (25, .v (.int .i64 ((i + 1 : Nat) : Int)))]) ?_, i + 1, by omega, rfl, hnx, rfl⟩; ((repeat (first | exact qd | refine qi ?_ | refine qR ?_ ?_)))
      · rw [e4 hlt hsofar (by rw [hfe]; exact hz), hfe]
        clear e3 e4 hma hgc huc hfb hfe
        generalize xH F[i].jou = JE at *
        repeat' (first | refine qe ?_ | (first | refine xsF Tryz.func37 (hname ..) ?_ | refine xsF Tryz.func38 (hjc ..) ?_) | ((first | refine qc ?_ ?_ | refine qb ?_ ?_ | refine xsC ?_ ?_); all_goals (intro hc; have hp := hc; try simp at hp; try (exfalso; omega))) | refine qw ?_ ?_)
        all_goals try (exfalso; first | omega | contradiction)
        all_goals ((exact yv (rs := [.tmp 2])))
  obtain rfl : i = F.length := by omega
  have hz : jF xo F = 0 := jz.2 (fun s hs => hsofar s (by rw [List.take_length]; exact hs))
  rw [if_neg (fun q => q hz)] at e3
  clear hsofar e4 hfb
  repeat' (first | refine qe ?_ | fail | ((first | refine qc ?_ ?_ | refine qb ?_ ?_ | refine xsC ?_ ?_); all_goals (intro hc; have hp := hc; try simp at hp; try (exfalso; omega))) | refine qw ?_ ?_)
  all_goals try (exfalso; omega)
  (refine Awp.red (qh (ts := [(1, .fp [Hub.row ⟨F, G, U, now⟩] 0 0), (6, .v (.int .i64 ((0 + 1 : Nat) : Int)))]) ?_) ?_; ((repeat (first | exact qd | refine qi ?_ | refine qR ?_ ?_))))
  refine qu (fun n σ => ∃ i : Nat, i ≤ (F.drop 1).length ∧ n = (F.drop 1).length - i ∧ (∀ (k : Nat) (h : k + 1 < F.length), k < i → yE (F[k]'(by omega)) F[k + 1] = true) ∧ σ = ⟨[(1, .fp [Hub.row ⟨F, G, U, now⟩] 0 0), (6, .v (.int .i64 ((i + 1 : Nat) : Int)))], [], C.nh⟩) (F.drop 1).length ⟨0, Nat.zero_le _, rfl, (fun k h hk => absurd hk (Nat.not_lt_zero _)), rfl⟩ ?_
  have hdl : (F.drop 1).length = F.length - 1 := by simp
  rintro n σ ⟨i, hi, rfl, hsofar, rfl⟩
  by_cases hlt : i + 1 < F.length
  · have hr := qF (f := Fol.row) hlt
    have hr' := qF (f := Fol.row) (l := F) (i := i) (by omega)
    have hle := qce F[i] F[i + 1]
    have hnr : yE F[i] F[i + 1] = false → qr yE F = false := fun h => by
      cases hq : qr yE F
      · rfl
      · have := jT.1 hq i hlt
        rw [h] at this; cases this
    cases hfl : yE F[i] F[i + 1] with
    | false =>
      rw [if_pos (hnr hfl)] at e3
      rw [e3]
      rw [hfl] at hle
      clear e3 hma hgc huc hnr
      repeat' (first | refine qe ?_ | fail | ((first | refine qc ?_ ?_ | refine qb ?_ ?_ | refine xsC ?_ ?_); all_goals (intro hc; have hp := hc; try simp at hp; try (exfalso; omega))) | refine qw ?_ ?_)
      all_goals try (exfalso; first | omega | simp_all; done)
      all_goals ((exact yv (rs := [.tmp 2])))
    | true =>
      rw [hfl] at hle
      have hok := hfl
      clear e3 hma hgc huc hnr
      repeat' (first | refine qe ?_ | fail | ((first | refine qc ?_ ?_ | refine qb ?_ ?_ | refine xsC ?_ ?_); all_goals (intro hc; have hp := hc; try simp at hp; try (exfalso; omega))) | refine qw ?_ ?_)
      all_goals try (exfalso; first | omega | simp_all; done)
      refine ⟨(F.drop 1).length - (i + 1), _, by omega, qh (ts := [(1, .fp [Hub.row ⟨F, G, U, now⟩] 0 0), (6, .v (.int .i64 ((i + 1 + 1 : Nat) : Int)))]) ?_, i + 1, by omega, rfl, (fun k h hk => by
        by_cases e : k = i
        · subst e; exact hok
        · exact hsofar k h (by omega)), rfl⟩; ((repeat (first | exact qd | refine qi ?_ | refine qR ?_ ?_)))
  have hrise : qr yE F = true := jT.2 fun k h => hsofar k h (by simp at hi; omega)
  rw [if_neg (by rw [hrise]; decide)] at e3
  clear hsofar
  rw [e3]
  clear e3
  by_cases hg0 : jE G = 0
  case neg =>
    rw [if_pos hg0]
    generalize jE G = GE at *
    clear hma huc
    repeat' (first | refine qe ?_ | (first | refine xsF Tryz.func39 (hgc ..) ?_) | ((first | refine qc ?_ ?_ | refine qb ?_ ?_ | refine xsC ?_ ?_); all_goals (intro hc; have hp := hc; try simp at hp; try (exfalso; omega))) | refine qw ?_ ?_)
    all_goals try (exfalso; first | omega | contradiction)
    all_goals ((exact yv (rs := [.tmp 2])))
  rw [if_neg (fun q => q hg0)]
  rw [hg0] at hgc
  have hma := hma (by omega) (by have := vo hg0; omega) hrise
  cases hmm : vu ⟨F, G, U, now⟩ with
  | false =>
    rw [hmm] at hma
    rw [if_pos rfl]
    clear huc
    repeat' (first | refine qe ?_ | (first | refine xsF Tryz.func39 (hgc ..) ?_ | refine xsF Tryz.func40 (hma ..) ?_) | ((first | refine qc ?_ ?_ | refine qb ?_ ?_ | refine xsC ?_ ?_); all_goals (intro hc; have hp := hc; try simp at hp; try (exfalso; omega))) | refine qw ?_ ?_)
    all_goals try (exfalso; first | omega | contradiction)
    all_goals ((exact yv (rs := [.tmp 2])))
  | true =>
    rw [hmm] at hma
    rw [if_neg (by decide)]
    generalize yq U = UE at *
    repeat' (first | refine qe ?_ | (first | refine xsF Tryz.func39 (hgc ..) ?_ | refine xsF Tryz.func40 (hma ..) ?_ | refine xsF Tryz.func31 (huc ..) ?_) | ((first | refine qc ?_ ?_ | refine qb ?_ ?_ | refine xsC ?_ ?_); all_goals (intro hc; have hp := hc; try simp at hp; try (exfalso; omega))) | refine qw ?_ ?_)
    all_goals try (exfalso; first | omega | contradiction)
    all_goals ((exact yv (rs := [.tmp 2])))
end Go.Proofs.YtiljlcgmcmjcoaaGreatDoor
set_option linter.unusedSimpArgs false
set_option linter.unnecessarySimpa false
set_option linter.unusedVariables false
set_option maxHeartbeats 1000000
namespace Go.Proofs.YtiljlcgmcmjcoaaGreatDoor
open Go.Ab Go.RowKit
set_option maxRecDepth 10000
attribute [local irreducible] Awp jV q9 qJ Red qy Go.Ab.Fin ql Rz yQ qA qG ResOk jC q6 jH qT
def qg9 (r : Pag × Int) : AV := .tup [.agg r.1.row, .v (.int .i64 r.2)]
theorem qdl {α : Type} {f : α → List AV} {l : List α} {k m : Nat} : (((((l.map f).take (l.map f).length).drop k).take m).drop 0) = ((l.drop k).take m).map f := by
  rw [List.take_length]; simp
theorem qgP (j : Jou) (cursor most : Int) (hb : JBig j) : jY C.P 124 [.agg j.row, .v (.int .i64 cursor), .v (.int .i64 most)] (qg9 (J8 j cursor most)) := by
  have ho := YN j hb
  have hmj : (j.coms.map Com.row).length = j.coms.length := List.length_map ..
  by_cases hz : xH j = 0
  · rw [YA hz] at ho
    have hJ := y7.1 hz
    have hlen := hJ.len
    have hlo := hJ.lo
    have hhi := hJ.hi
    have hN := hJ.now
    have hlast := X2 j (vf j) hJ
    have hce := kC (vf j) (by have := hN.len; omega)
    have hE : J8 j cursor most = XL j cursor most := by unfold J8; rw [if_neg (by simp [hz])]
    have hL : xN j = j.first + j.coms.length - 1 := rfl
    have hfew := kG hJ.base hJ.run
    have hrk : ∀ row, row ∈ j.coms.map Com.row → row.length = 3 := fun row hr => by obtain ⟨x, _, rfl⟩ := List.mem_map.1 hr; rfl
    rw [hE]
    unfold XL
    clear hE hz
    generalize vf j = U at *
    generalize xN j = LN at *
    by_cases h1 : most < 1 ∨ 10 < most ∨ cursor < 0
    · rw [if_pos h1]
      refine qa Tryz.func124 rfl _ Tryz.ntmps124 (Nat.le_of_ble_eq_true rfl) _ Tryz.results124 0 rfl rfl ?_
      (repeat apply j0); apply jm; (repeat' (first | apply jL | refine zc ?_ | refine zd ?_ | refine zi ?_ | refine kV ?_ | refine za ?_ | refine Qa ?_ | refine ze ?_ | refine JH ?_ | refine Xh ?_ | refine YS ?_ | refine wI ?_ | refine zl ?_ | refine vH ?_ | (first | fail) | refine xl ?_ | refine x7 ?_ | refine xX ?_ | refine xb ?_ | refine y9 ?_ | refine zn ?_ | refine zr ?_ | refine x3 ?_ | refine x6 ?_ | ((first | refine qc ?_ ?_ | refine qb ?_ ?_); all_goals (intro hc; have hp := hc; try simp at hp; try (exfalso; omega))))); show Awp _ _ _ _ _
      refine kf 3 0 ?_
      repeat' (first | refine qe ?_ | (first | refine xsQ Tryz.func74 (ho ..) ?_ | refine xsF Tryz.func152 (hlast ..) ?_ | refine xsQ Tryz.func101 (hce ..) ?_ | fail) | ((first | refine qc ?_ ?_ | refine qb ?_ ?_ | refine xsC ?_ ?_); all_goals (intro hc; have hp := hc; try simp at hp; try (exfalso; omega))) | refine qw ?_ ?_)
      (all_goals try (exfalso; first | omega | contradiction))
      all_goals ((exact yv (rs := [.cell 6 44, .tmp 7])))
    · rw [if_neg h1]
      by_cases h2 : LN < cursor
      · rw [if_pos h2]
        refine qa Tryz.func124 rfl _ Tryz.ntmps124 (Nat.le_of_ble_eq_true rfl) _ Tryz.results124 0 rfl rfl ?_
        (repeat apply j0); apply jm; (repeat' (first | apply jL | refine zc ?_ | refine zd ?_ | refine zi ?_ | refine kV ?_ | refine za ?_ | refine Qa ?_ | refine ze ?_ | refine JH ?_ | refine Xh ?_ | refine YS ?_ | refine wI ?_ | refine zl ?_ | refine vH ?_ | (first | fail) | refine xl ?_ | refine x7 ?_ | refine xX ?_ | refine xb ?_ | refine y9 ?_ | refine zn ?_ | refine zr ?_ | refine x3 ?_ | refine x6 ?_ | ((first | refine qc ?_ ?_ | refine qb ?_ ?_); all_goals (intro hc; have hp := hc; try simp at hp; try (exfalso; omega))))); show Awp _ _ _ _ _
        refine kf 3 0 ?_
        repeat' (first | refine qe ?_ | (first | refine xsQ Tryz.func74 (ho ..) ?_ | refine xsF Tryz.func152 (hlast ..) ?_ | refine xsQ Tryz.func101 (hce ..) ?_ | fail) | ((first | refine qc ?_ ?_ | refine qb ?_ ?_ | refine xsC ?_ ?_); all_goals (intro hc; have hp := hc; try simp at hp; try (exfalso; omega))) | refine qw ?_ ?_)
        (all_goals try (exfalso; first | omega | contradiction))
        all_goals ((exact yv (rs := [.cell 6 44, .tmp 7])))
      · rw [if_neg h2]
        by_cases h3 : cursor < j.first - 1
        · rw [if_pos h3]
          refine qa Tryz.func124 rfl _ Tryz.ntmps124 (Nat.le_of_ble_eq_true rfl) _ Tryz.results124 0 rfl rfl ?_
          (repeat apply j0); apply jm; (repeat' (first | apply jL | refine zc ?_ | refine zd ?_ | refine zi ?_ | refine kV ?_ | refine za ?_ | refine Qa ?_ | refine ze ?_ | refine JH ?_ | refine Xh ?_ | refine YS ?_ | refine wI ?_ | refine zl ?_ | refine vH ?_ | (first | fail) | refine xl ?_ | refine x7 ?_ | refine xX ?_ | refine xb ?_ | refine y9 ?_ | refine zn ?_ | refine zr ?_ | refine x3 ?_ | refine x6 ?_ | ((first | refine qc ?_ ?_ | refine qb ?_ ?_); all_goals (intro hc; have hp := hc; try simp at hp; try (exfalso; omega))))); show Awp _ _ _ _ _
          refine kf 3 0 ?_
          repeat' (first | refine qe ?_ | (first | refine xsQ Tryz.func74 (ho ..) ?_ | refine xsF Tryz.func152 (hlast ..) ?_ | refine xsQ Tryz.func101 (hce ..) ?_ | fail) | ((first | refine qc ?_ ?_ | refine qb ?_ ?_ | refine xsC ?_ ?_); all_goals (intro hc; have hp := hc; try simp at hp; try (exfalso; omega))) | refine qw ?_ ?_)
          (all_goals try (exfalso; first | omega | contradiction))
          all_goals ((exact yv (rs := [.cell 6 44, .tmp 7])))
        · rw [if_neg h3]
          have hP : Wy j cursor most = (j.coms.drop (cursor - j.first + 1).toNat).take most.toNat := rfl
          generalize Wy j cursor most = X at *
          obtain ⟨k, hk⟩ : ∃ k : Nat, k = (cursor - j.first + 1).toNat := ⟨_, rfl⟩
          obtain ⟨m, hm⟩ : ∃ m : Nat, m = min (j.coms.length - k) most.toNat := ⟨_, rfl⟩
          have hX : X = (j.coms.drop k).take m := by rw [hP, ← hk, hm, List.take_eq_take_min]; simp [Nat.min_comm]
          clear hP
          have hxl : X.length = m := by rw [hX]; simp; omega
          have hcl : ql C.P 153 [.sl false (((((j.coms.map Com.row).take (j.coms.map Com.row).length).drop k).take m).drop 0)] [] (.os 0 0 X.length) [.own false 3 (X.map Com.row)] := by
            rw [qdl, ← hX]
            exact Yz X (by omega) (fun c hc => by have := hfew c (by rw [hX] at hc; exact List.mem_of_mem_drop (List.mem_of_mem_take hc)); omega)
          have hdl : (((j.coms.map Com.row).take (j.coms.map Com.row).length).drop k).length = j.coms.length - k := by simp
          refine qa Tryz.func124 rfl _ Tryz.ntmps124 (Nat.le_of_ble_eq_true rfl) _ Tryz.results124 0 rfl rfl ?_
          (repeat apply j0); apply jm; (repeat' (first | apply jL | refine zc ?_ | refine zd ?_ | refine zi ?_ | refine kV ?_ | refine za ?_ | refine Qa ?_ | refine ze ?_ | refine JH ?_ | refine Xh ?_ | refine YS ?_ | refine wI ?_ | refine zl ?_ | refine vH ?_ | (first | fail) | refine xl ?_ | refine x7 ?_ | refine xX ?_ | refine xb ?_ | refine y9 ?_ | refine zn ?_ | refine zr ?_ | refine x3 ?_ | refine x6 ?_ | ((first | refine qc ?_ ?_ | refine qb ?_ ?_); all_goals (intro hc; have hp := hc; try simp at hp; try (exfalso; omega))))); show Awp _ _ _ _ _
          refine kf 3 0 ?_
          repeat' (first | refine qe ?_ | (first | refine xsQ Tryz.func74 (ho ..) ?_ | refine xsF Tryz.func152 (hlast ..) ?_ | refine xsQ Tryz.func101 (hce ..) ?_ | (apply qj; apply qgX; (case hx => rfl); (case hy => rfl); (case hN => exact nle rfl)) | (apply qj; apply vW (ex' := false) (a := k) (b := (j.coms.map Com.row).length) (m := 0); (case hx => rfl); (case hT => rfl); (case he => rfl); (case hE => rfl); (case ha => exact ⟨_, Xm (by omega)⟩); (case hb => rfl); (case hm => trivial); (case hab => (rw [hmj]; omega)); (case hbl => exact Nat.le_refl _); (case hrk => exact hrk); (case hex => exact nofun); (case hN => exact nle rfl)) | (apply qj; apply vW (ex' := false) (a := 0) (b := m) (m := 0); (case hx => rfl); (case hT => rfl); (case he => rfl); (case hE => rfl); (case ha => rfl); (case hb => exact ⟨_, Xm (by rw [hdl]; omega)⟩); (case hm => trivial); (case hab => exact Nat.zero_le _); (case hbl => (rw [hdl]; omega)); (case hrk => (intro row hr; exact hrk row (List.mem_of_mem_take (List.mem_of_mem_drop hr)))); (case hex => exact nofun); (case hN => exact nle rfl)) | (apply qH Tryz.func153 rfl rfl; intro hIsFn; refine j6 ([]) hIsFn (hcl ..) ?_)) | ((first | refine qc ?_ ?_ | refine qb ?_ ?_ | refine xsC ?_ ?_); all_goals (intro hc; have hp := hc; try simp at hp; try (exfalso; omega))) | refine qw ?_ ?_)
          (all_goals try (exfalso; first | omega | contradiction))
          all_goals ((exact yv (rs := [.cell 6 44, .tmp 7])))
  · rw [Ze hz] at ho
    unfold J8
    rw [if_pos hz]
    generalize xH j = E at *
    refine qa Tryz.func124 rfl _ Tryz.ntmps124 (Nat.le_of_ble_eq_true rfl) _ Tryz.results124 0 rfl rfl ?_
    repeat' (first | refine qe ?_ | (first | refine xsQ Tryz.func74 (ho ..) ?_) | ((first | refine qc ?_ ?_ | refine qb ?_ ?_ | refine xsC ?_ ?_); all_goals (intro hc; have hp := hc; try simp at hp; try (exfalso; omega))) | refine qw ?_ ?_)
    all_goals try (exfalso; omega)
    all_goals ((exact yv (rs := [.cell 6 44, .tmp 7])))
end Go.Proofs.YtiljlcgmcmjcoaaGreatDoor
set_option linter.unusedSimpArgs false
set_option linter.unnecessarySimpa false
set_option linter.unusedVariables false
set_option maxHeartbeats 1000000
namespace Go.Proofs.YtiljlcgmcmjcoaaGreatDoor
open Go.Ab Go.RowKit
set_option maxRecDepth 10000
attribute [local irreducible] Awp jV q9 qJ Red qy Go.Ab.Fin ql Rz yQ qA qG ResOk jC q6 jH qT
theorem qdu (c : Com) (key : qB) : jY C.P 159 [.agg c.row, .fp [[.v (str key)]] 0 0] (.v (.bool (isK key c))) := by
  refine qa Tryz.func159 rfl _ Tryz.ntmps159 (Nat.le_of_ble_eq_true rfl) _ Tryz.results159 0 rfl rfl ?_
  repeat' (first | refine qe ?_ | fail | ((first | refine xsC ?_ ?_); all_goals (intro hc; have hp := hc; try simp at hp; try (exfalso; omega))) | refine qw ?_ ?_)
  all_goals (apply jA; rfl; rfl)
theorem qeh (p : Com → Bool) (g : FuncId) (hg : IsFn C.P g) (cap : List AV) (hcap : AV.pure.pureL cap = true) (l : List (Com)) (hl : l.length ≤ 1000000) (hc : ∀ s, s ∈ l → jY C.P g ((AV.agg (Com.row s)) :: cap) (.v (.bool (p s)))) :
    jY C.P 158 [.sl false (l.map Com.row), .clo (.func g) [] cap] (.v (.int .i64 (yj p l))) := by
  refine qa Tryz.func158 rfl _ Tryz.ntmps158 (Nat.le_of_ble_eq_true rfl) _ Tryz.results158 0 rfl rfl ?_
  repeat' (first | refine qe ?_ | fail | ((first | refine xsC ?_ ?_); all_goals (intro hc; have hp := hc; try simp at hp; try (exfalso; omega))) | refine qw ?_ ?_)
  (refine Awp.red (qh (ts := [(0, .sl false (l.map Com.row)), (1, .clo (.func g) [] cap), (7, .v (.int .i64 l.length)), (8, .v (.int .i64 ((0 : Nat) : Int)))]) ?_) ?_; ((repeat (first | exact qd | refine qi ?_ | refine qR ?_ ?_))))
  all_goals try (rw [List.length_map]; done)
  refine qu (fun n σ => ∃ i : Nat, i ≤ l.length ∧ n = l.length - i ∧ (∀ s, s ∈ l.take i → p s = false) ∧ σ = ⟨[(0, .sl false (l.map Com.row)), (1, .clo (.func g) [] cap), (7, .v (.int .i64 l.length)), (8, .v (.int .i64 (i : Int)))], [], C.nh⟩) l.length ⟨0, Nat.zero_le _, rfl, (by simp), rfl⟩ ?_
  rintro n σ ⟨i, hi, rfl, hsofar, rfl⟩
  by_cases hlt : i < l.length
  · have hr := qF (f := Com.row) hlt
    have hci := hc l[i] (List.getElem_mem _)
    repeat' (first | refine qe ?_ | (first | (apply qj; apply zk []; rfl; exact hg; exact hci; (case hz => exact qm (qQ rfl) (ka hcap)); (case hfl => rfl); (case hN => exact nle rfl))) | ((first | refine xsC ?_ ?_); all_goals (intro hc; have hp := hc; try simp at hp; try (exfalso; omega))) | refine qw ?_ ?_)
    all_goals try (exfalso; omega)
    · apply qD
      rfl
      exact (vJ hlt hsofar hp).symm
    · refine ⟨l.length - (i + 1), _, by omega, qh (ts := [(0, .sl false (l.map Com.row)), (1, .clo (.func g) [] cap), (7, .v (.int .i64 l.length)), (8, .v (.int .i64 ((i + 1 : Nat) : Int)))]) ?_, i + 1, by omega, rfl, qK hlt hsofar hp, rfl⟩; ((repeat (first | exact qd | refine qi ?_ | refine qR ?_ ?_)))
  obtain rfl : i = l.length := by omega
  repeat' (first | refine qe ?_ | fail | ((first | refine xsC ?_ ?_); all_goals (intro hc; have hp := hc; try simp at hp; try (exfalso; omega))) | refine qw ?_ ?_)
  all_goals try (exfalso; omega)
  apply qD
  rfl
  exact (xY fun s hs => hsofar s (by rw [List.take_length]; exact hs)).symm
theorem Vk (l : List Com) (key : qB) (hl : l.length ≤ 1000000) : jY C.P 158 [Qx l, .clo (.func 159) [] [.fp [[.v (str key)]] 0 0]] (.v (.int .i64 (yj (isK key) l))) :=
  qeh (isK key) 159 (jG Tryz.func159 rfl rfl) [.fp [[.v (str key)]] 0 0] rfl l hl (fun c _ => qdu c key)
def qfG (r : Jou × Int × Int) : AV := .tup [.agg r.1.row, .v (.int .i64 r.2.1), .v (.int .i64 r.2.2)]
theorem qc5 {d c : Com} {r : List Com} {x : List AV} {n n0 : Nat} (hx : x = c.row) (hn0 : n0 = r.length + 1) (hn : n = r.length + 1) : ((((d :: r).map Com.row).take n0 ++ [x]).drop 1).take n = (((d :: r) ++ [c]).drop 1).map Com.row := by
  subst hx; subst hn; subst hn0
  rw [List.take_of_length_le (l := (d :: r).map Com.row) (by simp)]
  simp [List.take_of_length_le]
theorem VP (j : Jou) (key : qB) (l : List Chg) (hb : JBig j) (hcb : CBig l) (hJ : JRight j) (hkk : vD key = true) (hf : j.coms.find? (isK key) = none) (hl0 : ¬ l = []) (hbig : ¬ 1000000 < yg j) (hz : (vb (yg j) (vf j) l).2.2 = 0) (h31 : ¬ 30 < j.coms.length + 1) :
    jY C.P 129 [.agg j.row, .v (str key), vh l] (qfG (kh j ⟨yg j, key, l⟩, yg j, 0)) := by
  have hll := hcb.len
  have hml : (l.map Chg.row).length = l.length := List.length_map ..
  have hmj : (j.coms.map Com.row).length = j.coms.length := List.length_map ..
  have ho := YN j hb
  rw [YA (y7.2 hJ)] at ho
  have hk := X7 key
  rw [hkk] at hk
  have hlen := hJ.len
  have hN := hJ.now
  have hlast := X2 j (vf j) hJ
  have hcl := Yz j.coms (by omega) (fun c hc => by have := kG hJ.base hJ.run c hc; omega)
  have hce := kC j.base (by have := hJ.base.len; omega)
  have hidx := Vk j.coms key (by omega)
  have hi : yj (isK key) j.coms = -1 := by
    rcases Qo (isK key) j.coms with ⟨hi, _⟩ | ⟨k, hkl, hi, hf2⟩
    · exact hi
    · rw [hf] at hf2; cases hf2
  rw [hi] at hidx
  have hLb : 0 ≤ xN j ∧ xN j ≤ 1000030 := by have := hJ.lo; have := hJ.hi; unfold xN; omega
  have hall := WM (vf j) l (yg j) hN.big hcb
  have hl1 : ¬ l.length = 0 := fun e => hl0 (List.eq_nil_of_length_eq_zero e)
  have hcc := Jm l (by have := Vg hN hz; omega)
  have hp31 : kh j ⟨yg j, key, l⟩ = if 30 < j.coms.length + 1 then ⟨match j.coms with | [] => j.base | d :: _ => (vb j.first j.base d.chs).1, j.first + 1, (j.coms ++ [(⟨yg j, key, l⟩ : Com)]).drop 1⟩ else ⟨j.base, j.first, j.coms ++ [(⟨yg j, key, l⟩ : Com)]⟩ := rfl
  generalize kh j ⟨yg j, key, l⟩ = PJ at *
  generalize vb (yg j) (vf j) l = A at *
  obtain ⟨t1, n1, e1⟩ := A
  have hz : e1 = 0 := hz
  subst hz
  generalize hnx : yg j = NX at *
  have hnx2 : NX = xN j + 1 := hnx.symm
  clear hnx
  generalize xN j = LN at *
  subst hnx2
  generalize vf j = U at *
  rw [if_neg h31] at hp31
  subst hp31
  refine qa Tryz.func129 rfl _ Tryz.ntmps129 (Nat.le_of_ble_eq_true rfl) _ Tryz.results129 0 rfl rfl ?_
  (repeat apply j0); apply jm; (repeat' (first | apply jL | refine zc ?_ | refine zd ?_ | refine zi ?_ | refine kV ?_ | refine za ?_ | refine ze ?_ | refine Qu ?_ | refine wj ?_ | refine JH ?_ | refine QL ?_ | refine Xh ?_ | refine YS ?_ | refine wI ?_ | refine zl ?_ | refine vH ?_ | (first | fail) | refine xl ?_)); show Awp _ _ _ _ _
  refine kf 3 0 ?_
  refine kf 4 1 ?_
  repeat' (first | refine qe ?_ | (first | refine xsQ Tryz.func74 (ho ..) ?_ | refine xsF Tryz.func118 (hk ..) ?_ | refine xsQ Tryz.func101 (hce ..) ?_ | (apply qH Tryz.func153 rfl rfl; intro hIsFn; refine j6 ([]) hIsFn (hcl ..) ?_) | refine xsF Tryz.func158 (hidx ..) ?_ | refine xsF Tryz.func152 (hlast ..) ?_ | refine xsQ Tryz.func119 (hall ..) ?_ | refine xsQ Tryz.func122 (hcc ..) ?_ | (refine jZ ?_) | (refine xw ?_)) | ((first | refine xsC ?_ ?_); all_goals (intro hc; have hp := hc; try simp at hp; try (exfalso; omega))) | refine qw ?_ ?_)
  (all_goals try (exfalso; first | omega | contradiction))
  all_goals ((refine y6 (rs := [.cell 6 60, .tmp 7, .tmp 8]) ?_; (repeat' (first | exact qZ | apply qm | exact qQ rfl | exact yI | exact z1 | apply yh | apply yX | apply yc | apply y2 | apply yx | apply yW | refine z8 ?_ | apply xS)); all_goals (rw [List.take_of_length_le (by simp), List.map_append]; rfl)))
theorem VJ (j : Jou) (key : qB) (l : List Chg) (hb : JBig j) (hcb : CBig l) (hJ : JRight j) (hkk : vD key = true) (hf : j.coms.find? (isK key) = none) (hl0 : ¬ l = []) (hbig : ¬ 1000000 < yg j) (hz : (vb (yg j) (vf j) l).2.2 = 0) (h31 : 30 < j.coms.length + 1) :
    jY C.P 129 [.agg j.row, .v (str key), vh l] (qfG (kh j ⟨yg j, key, l⟩, yg j, 0)) := by
  have hll := hcb.len
  have hml : (l.map Chg.row).length = l.length := List.length_map ..
  have hmj : (j.coms.map Com.row).length = j.coms.length := List.length_map ..
  have ho := YN j hb
  rw [YA (y7.2 hJ)] at ho
  have hk := X7 key
  rw [hkk] at hk
  have hlen := hJ.len
  have hN := hJ.now
  have hlast := X2 j (vf j) hJ
  have hcl := Yz j.coms (by omega) (fun c hc => by have := kG hJ.base hJ.run c hc; omega)
  have hce := kC j.base (by have := hJ.base.len; omega)
  have hidx := Vk j.coms key (by omega)
  have hi : yj (isK key) j.coms = -1 := by
    rcases Qo (isK key) j.coms with ⟨hi, _⟩ | ⟨k, hkl, hi, hf2⟩
    · exact hi
    · rw [hf] at hf2; cases hf2
  rw [hi] at hidx
  have hLb : 0 ≤ xN j ∧ xN j ≤ 1000030 := by have := hJ.lo; have := hJ.hi; unfold xN; omega
  have hall := WM (vf j) l (yg j) hN.big hcb
  have hl1 : ¬ l.length = 0 := fun e => hl0 (List.eq_nil_of_length_eq_zero e)
  have hcc := Jm l (by have := Vg hN hz; omega)
  have hp31 : kh j ⟨yg j, key, l⟩ = if 30 < j.coms.length + 1 then ⟨match j.coms with | [] => j.base | d :: _ => (vb j.first j.base d.chs).1, j.first + 1, (j.coms ++ [(⟨yg j, key, l⟩ : Com)]).drop 1⟩ else ⟨j.base, j.first, j.coms ++ [(⟨yg j, key, l⟩ : Com)]⟩ := rfl
  generalize kh j ⟨yg j, key, l⟩ = PJ at *
  generalize vb (yg j) (vf j) l = A at *
  obtain ⟨t1, n1, e1⟩ := A
  have hz : e1 = 0 := hz
  subst hz
  generalize hnx : yg j = NX at *
  have hnx2 : NX = xN j + 1 := hnx.symm
  clear hnx
  generalize xN j = LN at *
  subst hnx2
  generalize vf j = U at *
  rw [if_pos h31] at hp31
  subst hp31
  obtain ⟨jb, jf, jc⟩ := j
  cases jc with
  | nil => exact absurd h31 (by simp)
  | cons d r =>
    obtain ⟨q1, q2, -⟩ := w9 hJ.run
    have q4 := (wB q1).1
    have hall2 := WM jb d.chs jf hJ.base.big (hb.coms.each d (List.mem_cons_self ..)).chs
    have hjl := hJ.lo
    have hjh := hJ.hi
    dsimp only at *
    have hlen2 : r.length + 1 ≤ 30 := by simpa using hlen
    have h31b : 30 < r.length + 1 + 1 := by simpa using h31
    have hjl3 : 1 ≤ (Jou.mk jb jf (d :: r)).first := hjl
    have hjh3 : (Jou.mk jb jf (d :: r)).first ≤ 1000000 := hjh
    rw [q4] at q2
    generalize vb jf jb d.chs = T2 at *
    obtain ⟨t2, n2, e2⟩ := T2
    have q2 : e2 = 0 := q2
    subst q2
    clear hJ hb hi hf q1 q4
    refine qa Tryz.func129 rfl _ Tryz.ntmps129 (Nat.le_of_ble_eq_true rfl) _ Tryz.results129 0 rfl rfl ?_
    (repeat apply j0); apply jm; (repeat' (first | apply jL | refine zc ?_ | refine zd ?_ | refine zi ?_ | refine kV ?_ | refine za ?_ | refine ze ?_ | refine Qu ?_ | refine wj ?_ | refine JH ?_ | refine QL ?_ | refine Xh ?_ | refine YS ?_ | refine wI ?_ | refine zl ?_ | refine vH ?_ | (first | fail) | refine xl ?_)); show Awp _ _ _ _ _
    refine kf 3 0 ?_
    refine kf 4 1 ?_
    repeat' (first | refine qe ?_ | (first | refine xsQ Tryz.func74 (ho ..) ?_ | refine xsF Tryz.func118 (hk ..) ?_ | refine xsQ Tryz.func101 (hce ..) ?_ | (apply qH Tryz.func153 rfl rfl; intro hIsFn; refine j6 ([]) hIsFn (hcl ..) ?_) | refine xsF Tryz.func158 (hidx ..) ?_ | refine xsF Tryz.func152 (hlast ..) ?_ | refine xsQ Tryz.func119 (hall ..) ?_ | refine xsQ Tryz.func122 (hcc ..) ?_ | (refine jZ ?_) | (refine xw ?_) | (refine vk ?_) | (refine Q7 ?_) | refine xsQ Tryz.func119 (hall2 ..) ?_) | ((first | refine xsC ?_ ?_); all_goals (intro hc; have hp := hc; try simp at hp; try (exfalso; omega))) | refine qw ?_ ?_)
    (all_goals try (exfalso; first | omega | contradiction))
    all_goals ((refine y6 (rs := [.cell 6 60, .tmp 7, .tmp 8]) ?_; (repeat' (first | (exact qhi (qc5 (n0 := (d :: r).length) rfl (by simp) (by simp)) (js fun _ => rfl) (by simp; try omega)) | exact qZ | apply qm | exact qQ rfl | exact yI | exact z1 | apply yh | apply yX | apply yc | apply y2 | apply yx | apply yW | refine z8 ?_ | apply xS)); all_goals trace_state))
theorem Zq (j : Jou) (key : qB) (l : List Chg) (hb : JBig j) (hcb : CBig l) (hJ : JRight j) (hkk : vD key = true) (hf : j.coms.find? (isK key) = none) (hl0 : ¬ l = []) (hbig : ¬ 1000000 < yg j) (hz : (vb (yg j) (vf j) l).2.2 = 0) :
    jY C.P 129 [.agg j.row, .v (str key), vh l] (qfG (kh j ⟨yg j, key, l⟩, yg j, 0)) := by
  by_cases h31 : 30 < j.coms.length + 1
  · exact VJ j key l hb hcb hJ hkk hf hl0 hbig hz h31
  · exact VP j key l hb hcb hJ hkk hf hl0 hbig hz h31
theorem qeR (j : Jou) (key : qB) (l : List Chg) (hb : JBig j) (hcb : CBig l) : jY C.P 129 [.agg j.row, .v (str key), vh l] (qfG (yO j key l)) := by
  have ho := YN j hb
  have hk := X7 key
  have hll := hcb.len
  have hml : (l.map Chg.row).length = l.length := List.length_map ..
  have hmj : (j.coms.map Com.row).length = j.coms.length := List.length_map ..
  by_cases hz : xH j = 0
  · rw [YA hz] at ho
    have hJ := y7.1 hz
    have hlen := hJ.len
    have hE : yO j key l = vl j key l := by unfold yO; rw [if_neg (by simp [hz])]
    have hN := hJ.now
    have hlast := X2 j (vf j) hJ
    have hcl := Yz j.coms (by omega) (fun c hc => by have := kG hJ.base hJ.run c hc; omega)
    have hce := kC j.base (by have := hJ.base.len; omega)
    rw [hE]
    unfold vl
    cases hkk : vD key with
    | false =>
      rw [hkk] at hk
      rw [if_pos rfl]
      clear hE hlast hcl hce
      generalize vf j = U at *
      refine qa Tryz.func129 rfl _ Tryz.ntmps129 (Nat.le_of_ble_eq_true rfl) _ Tryz.results129 0 rfl rfl ?_
      repeat' (first | refine qe ?_ | (first | refine xsQ Tryz.func74 (ho ..) ?_ | refine xsF Tryz.func118 (hk ..) ?_) | ((first | refine xsC ?_ ?_); all_goals (intro hc; have hp := hc; try simp at hp; try (exfalso; omega))) | refine qw ?_ ?_)
      all_goals try (exfalso; omega)
      all_goals ((exact yv (rs := [.cell 6 60, .tmp 7, .tmp 8])))
    | true =>
      rw [hkk] at hk
      rw [if_neg (by decide)]
      have hidx := Vk j.coms key (by omega)
      rcases Qo (isK key) j.coms with ⟨hi, hf⟩ | ⟨k, hkl, hi, hf⟩
      · rw [hf]
        rw [hi] at hidx
        simp only
        have hidx2 := trivial
        have hLb : 0 ≤ xN j ∧ xN j ≤ 1000030 := by have := hJ.lo; have := hJ.hi; unfold xN; omega
        have hall := WM (vf j) l (yg j) hN.big hcb
        have hnx : yg j = xN j + 1 := rfl
        have hpush := Zq j key l hb hcb hJ hkk hf
        generalize kh j ⟨yg j, key, l⟩ = PJ at *
        generalize hAA : vb (yg j) (vf j) l = A at *
        rw [hnx] at *
        clear hE
        by_cases hl0 : l = []
        · subst hl0
          rw [if_pos rfl]
          generalize vf j = U at *
          generalize xN j = LN at *
          refine qa Tryz.func129 rfl _ Tryz.ntmps129 (Nat.le_of_ble_eq_true rfl) _ Tryz.results129 0 rfl rfl ?_
          (repeat apply j0); apply jm; (repeat' (first | apply jL | refine zc ?_ | refine zd ?_ | refine zi ?_ | refine kV ?_ | refine za ?_ | refine ze ?_ | refine Qu ?_ | refine wj ?_ | refine JH ?_ | refine QL ?_ | refine Xh ?_ | refine YS ?_ | refine wI ?_ | refine zl ?_ | refine vH ?_ | (first | fail) | refine xl ?_)); show Awp _ _ _ _ _
          refine kf 3 0 ?_
          refine kf 4 1 ?_
          repeat' (first | refine qe ?_ | (first | refine xsQ Tryz.func74 (ho ..) ?_ | refine xsF Tryz.func118 (hk ..) ?_ | refine xsQ Tryz.func101 (hce ..) ?_ | (apply qH Tryz.func153 rfl rfl; intro hIsFn; refine j6 ([]) hIsFn (hcl ..) ?_) | refine xsF Tryz.func158 (hidx ..) ?_ | refine xsF Tryz.func152 (hlast ..) ?_ | refine xsQ Tryz.func119 (hall ..) ?_ | fail) | ((first | refine xsC ?_ ?_); all_goals (intro hc; have hp := hc; try simp at hp; try (exfalso; omega))) | refine qw ?_ ?_)
          (all_goals try (exfalso; first | omega | contradiction))
          all_goals ((exact yv (rs := [.cell 6 60, .tmp 7, .tmp 8])))
        · rw [if_neg hl0]
          have hl1 : ¬ l.length = 0 := fun e => hl0 (List.eq_nil_of_length_eq_zero e)
          by_cases hbig : 1000000 < xN j + 1
          · rw [if_pos hbig]
            generalize vf j = U at *
            generalize xN j = LN at *
            refine qa Tryz.func129 rfl _ Tryz.ntmps129 (Nat.le_of_ble_eq_true rfl) _ Tryz.results129 0 rfl rfl ?_
            (repeat apply j0); apply jm; (repeat' (first | apply jL | refine zc ?_ | refine zd ?_ | refine zi ?_ | refine kV ?_ | refine za ?_ | refine ze ?_ | refine Qu ?_ | refine wj ?_ | refine JH ?_ | refine QL ?_ | refine Xh ?_ | refine YS ?_ | refine wI ?_ | refine zl ?_ | refine vH ?_ | (first | fail) | refine xl ?_)); show Awp _ _ _ _ _
            refine kf 3 0 ?_
            refine kf 4 1 ?_
            repeat' (first | refine qe ?_ | (first | refine xsQ Tryz.func74 (ho ..) ?_ | refine xsF Tryz.func118 (hk ..) ?_ | refine xsQ Tryz.func101 (hce ..) ?_ | (apply qH Tryz.func153 rfl rfl; intro hIsFn; refine j6 ([]) hIsFn (hcl ..) ?_) | refine xsF Tryz.func158 (hidx ..) ?_ | refine xsF Tryz.func152 (hlast ..) ?_ | refine xsQ Tryz.func119 (hall ..) ?_ | fail) | ((first | refine xsC ?_ ?_); all_goals (intro hc; have hp := hc; try simp at hp; try (exfalso; omega))) | refine qw ?_ ?_)
            (all_goals try (exfalso; first | omega | contradiction))
            all_goals ((exact yv (rs := [.cell 6 60, .tmp 7, .tmp 8])))
          · rw [if_neg hbig]
            obtain ⟨t1, n1, e1⟩ := A
            by_cases he1 : e1 = 0
            · subst he1
              rw [if_neg (by simp)]
              exact hpush hl0 hbig rfl
            · rw [if_pos he1]
              generalize vf j = U at *
              generalize xN j = LN at *
              refine qa Tryz.func129 rfl _ Tryz.ntmps129 (Nat.le_of_ble_eq_true rfl) _ Tryz.results129 0 rfl rfl ?_
              (repeat apply j0); apply jm; (repeat' (first | apply jL | refine zc ?_ | refine zd ?_ | refine zi ?_ | refine kV ?_ | refine za ?_ | refine ze ?_ | refine Qu ?_ | refine wj ?_ | refine JH ?_ | refine QL ?_ | refine Xh ?_ | refine YS ?_ | refine wI ?_ | refine zl ?_ | refine vH ?_ | (first | fail) | refine xl ?_)); show Awp _ _ _ _ _
              refine kf 3 0 ?_
              refine kf 4 1 ?_
              repeat' (first | refine qe ?_ | (first | refine xsQ Tryz.func74 (ho ..) ?_ | refine xsF Tryz.func118 (hk ..) ?_ | refine xsQ Tryz.func101 (hce ..) ?_ | (apply qH Tryz.func153 rfl rfl; intro hIsFn; refine j6 ([]) hIsFn (hcl ..) ?_) | refine xsF Tryz.func158 (hidx ..) ?_ | refine xsF Tryz.func152 (hlast ..) ?_ | refine xsQ Tryz.func119 (hall ..) ?_ | fail) | ((first | refine xsC ?_ ?_); all_goals (intro hc; have hp := hc; try simp at hp; try (exfalso; omega))) | refine qw ?_ ?_)
              (all_goals try (exfalso; first | omega | contradiction))
              all_goals ((exact yv (rs := [.cell 6 60, .tmp 7, .tmp 8])))
      · rw [hf]
        rw [hi] at hidx
        have hr := qF (f := Com.row) hkl
        simp only
        clear hE
        generalize vf j = U at *
        refine qa Tryz.func129 rfl _ Tryz.ntmps129 (Nat.le_of_ble_eq_true rfl) _ Tryz.results129 0 rfl rfl ?_
        (repeat apply j0); apply jm; (repeat' (first | apply jL | refine zc ?_ | refine zd ?_ | refine zi ?_ | refine kV ?_ | refine za ?_ | refine ze ?_ | refine Qu ?_ | refine wj ?_ | refine JH ?_ | refine QL ?_ | refine Xh ?_ | refine YS ?_ | refine wI ?_ | refine zl ?_ | refine vH ?_ | (first | fail) | refine xl ?_)); show Awp _ _ _ _ _
        refine kf 3 0 ?_
        refine kf 4 1 ?_
        repeat' (first | refine qe ?_ | (first | refine xsQ Tryz.func74 (ho ..) ?_ | refine xsF Tryz.func118 (hk ..) ?_ | refine xsQ Tryz.func101 (hce ..) ?_ | (apply qH Tryz.func153 rfl rfl; intro hIsFn; refine j6 ([]) hIsFn (hcl ..) ?_) | refine xsF Tryz.func158 (hidx ..) ?_) | ((first | refine xsC ?_ ?_); all_goals (intro hc; have hp := hc; try simp at hp; try (exfalso; omega))) | refine qw ?_ ?_)
        all_goals try (exfalso; omega)
        all_goals ((exact yv (rs := [.cell 6 60, .tmp 7, .tmp 8])))
  · rw [Ze hz] at ho
    unfold yO
    rw [if_pos hz]
    generalize xH j = E at *
    refine qa Tryz.func129 rfl _ Tryz.ntmps129 (Nat.le_of_ble_eq_true rfl) _ Tryz.results129 0 rfl rfl ?_
    repeat' (first | refine qe ?_ | (first | refine xsQ Tryz.func74 (ho ..) ?_) | ((first | refine xsC ?_ ?_); all_goals (intro hc; have hp := hc; try simp at hp; try (exfalso; omega))) | refine qw ?_ ?_)
    all_goals try (exfalso; omega)
    all_goals ((exact yv (rs := [.cell 6 60, .tmp 7, .tmp 8])))
end Go.Proofs.YtiljlcgmcmjcoaaGreatDoor
set_option linter.unusedSimpArgs false
set_option linter.unnecessarySimpa false
set_option linter.unusedVariables false
set_option maxHeartbeats 1000000
namespace Go.Proofs.YtiljlcgmcmjcoaaGreatDoor
open Go.Ab Go.RowKit
set_option maxRecDepth 10000
attribute [local irreducible] Awp jV q9 qJ Red qy Go.Ab.Fin ql Rz yQ qA qG ResOk jC q6 jH qT
end Go.Proofs.YtiljlcgmcmjcoaaGreatDoor
