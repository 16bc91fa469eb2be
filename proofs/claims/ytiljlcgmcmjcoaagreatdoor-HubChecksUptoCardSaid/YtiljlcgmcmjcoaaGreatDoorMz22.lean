import Derived.Test.YtiljlcgmcmjcoaaGreatDoorMz15
import Derived.Test.YtiljlcgmcmjcoaaGreatDoorMz21
import Derived.Test.YtiljlcgmcmjcoaaGreatDoorMz16
import Derived.Test.YtiljlcgmcmjcoaaGreatDoorMz14
set_option linter.unusedSimpArgs false
set_option linter.unnecessarySimpa false
set_option linter.unusedVariables false
set_option maxHeartbeats 1000000
namespace Go.Proofs.YtiljlcgmcmjcoaaGreatDoor
open Go.Ab Go.RowKit
set_option maxRecDepth 10000
attribute [local irreducible] Awp jV q9 qJ Red qy Go.Ab.Fin ql Rz yQ qA qG ResOk jC q6 jH qT
def Jr (j : Jou) (t : List Ent) : List AV := [qq j.base, .v (.int .i64 j.first), Qx j.coms, qq t]
def Vv (j : Jou) (r : List Ent × Int) : AV := if r.2 = 0 then .tup [.fp [Jr j r.1] 0 0, .v (.int .i64 0)] else .tup [.v (.pointer none), .v (.int .i64 r.2)]
def Jz (j : Jou) : List Ent × Int :=
  if ¬ jx j.base = 0 then ([], jx j.base) else if j.first < 1 ∨ 1000000 < j.first then ([], 3) else if 30 < j.coms.length then ([], 2)
  else if ¬ (yB j.first j.base j.coms).2 = 0 then ([], (yB j.first j.base j.coms).2) else if zE j.coms = true then (vf j, 0) else ([], 6)
theorem ZG (j : Jou) : (Jz j).2 = xH j := by
  unfold Jz xH
  (repeat' split) <;> simp_all
theorem ZE {j : Jou} (h : xH j = 0) : Jz j = (vf j, 0) := by
  have hR := y7.1 h
  unfold Jz
  rw [if_neg (by simp [zL.2 hR.base]), if_neg (by have := hR.lo; have := hR.hi; omega), if_neg (by have := hR.len; omega), if_neg (by simp [hR.run]), if_pos (by simp [zE, hR.keys])]
theorem kz {j : Jou} {e : Int} (h : ¬ e = 0) : Vv j ([], e) = .tup [.v (.pointer none), .v (.int .i64 e)] := if_neg h
theorem qbn (l : List Com) : zE l = true ↔ ¬ (zb (l.map Com.key)).length < l.length := by
  have := qeY (l.map Com.key)
  rw [List.length_map] at this
  rw [this]
  simp [zE]
theorem qcW {l : List Com} {i : Nat} (h : i < l.length) : zb ((l.take (i + 1)).map Com.key) = yU (zb ((l.take i).map Com.key)) l[i].key yes := by
  rw [List.take_succ_eq_append_getElem h, List.map_append]; exact Ji _ _
theorem YN (j : Jou) (hb : JBig j) : jY C.P 74 [.agg j.row] (Vv j (Jz j)) := by
  have hc := qeT j.base hb.base
  have hml : (j.coms.map Com.row).length = j.coms.length := List.length_map ..
  have hE : Jz j = if ¬ jx j.base = 0 then ([], jx j.base) else if j.first < 1 ∨ 1000000 < j.first then ([], 3) else if 30 < j.coms.length then ([], 2) else if ¬ (yB j.first j.base j.coms).2 = 0 then ([], (yB j.first j.base j.coms).2) else if zE j.coms = true then ((yB j.first j.base j.coms).1, 0) else ([], 6) := rfl
  by_cases h1 : jx j.base = 0
  · rw [if_neg (by simp [h1])] at hE
    rw [h1] at hc
    by_cases h2 : j.first < 1 ∨ 1000000 < j.first
    · rw [if_pos h2] at hE
      rw [hE, kz (by decide)]
      refine qa Tryz.func74 rfl _ Tryz.ntmps74 (Nat.le_of_ble_eq_true rfl) _ Tryz.results74 0 rfl rfl ?_
      repeat' (first | refine qe ?_ | (first | refine xsQ Tryz.func117 (hc ..) ?_) | ((first | refine qc ?_ ?_ | refine qb ?_ ?_ | refine xsC ?_ ?_); all_goals (intro hc; have hp := hc; try simp at hp; try (exfalso; omega))) | refine qw ?_ ?_)
      all_goals try (exfalso; omega)
      all_goals ((exact yv (rs := [.tmp 2, .tmp 3])))
    · rw [if_neg h2] at hE
      by_cases h3 : 30 < j.coms.length
      · rw [if_pos h3] at hE
        rw [hE, kz (by decide)]
        refine qa Tryz.func74 rfl _ Tryz.ntmps74 (Nat.le_of_ble_eq_true rfl) _ Tryz.results74 0 rfl rfl ?_
        repeat' (first | refine qe ?_ | (first | refine xsQ Tryz.func117 (hc ..) ?_) | ((first | refine qc ?_ ?_ | refine qb ?_ ?_ | refine xsC ?_ ?_); all_goals (intro hc; have hp := hc; try simp at hp; try (exfalso; omega))) | refine qw ?_ ?_)
        all_goals try (exfalso; omega)
        all_goals ((exact yv (rs := [.tmp 2, .tmp 3])))
      · rw [if_neg h3] at hE
        have hk := qbn j.coms
        have hR := zL.1 h1
        generalize hRR : yB j.first j.base j.coms = R at *
        generalize Jz j = O at *
        generalize zE j.coms = K at *
        refine qa Tryz.func74 rfl _ Tryz.ntmps74 (Nat.le_of_ble_eq_true rfl) _ Tryz.results74 0 rfl rfl ?_
        repeat' (first | refine qe ?_ | (first | refine xsQ Tryz.func117 (hc ..) ?_ | (apply yP; apply vp; exact nle rfl)) | ((first | refine qc ?_ ?_ | refine qb ?_ ?_ | refine xsC ?_ ?_); all_goals (intro hc; have hp := hc; try simp at hp; try (exfalso; omega))) | refine qw ?_ ?_)
        all_goals try (exfalso; omega)
        (refine Awp.red (jq (τ := ⟨[(1, .op 0 0 0), (5, .op 1 0 0), (6, .mp 2), (39, Qx j.coms), (40, .v (.int .i64 j.coms.length)), (41, .v (.int .i64 ((0 : Nat) : Int)))], [(0, .own false 3 [j.row]), (1, .own false 4 [Jr j j.base]), (2, .mp (zb ((j.coms.take 0).map Com.key)))], 3⟩) [(0, 0), (1, 1), (2, 2)] rfl ?gts2 ?ghs2) ?gmain2; (case gts2 => (repeat (first | exact qd | refine qi ?_ | refine xM ?_ | refine qdZ ?_ | refine qg5 ?_ | refine qd8 ?_ ?_ | refine qR ?_ ?_)); all_goals (first | (rw [List.length_map]; done) | rfl | exact nofun)); (case ghs2 => (repeat (first | exact qg | refine Q9 ?_ | refine qhq ?_ ?_ ?_ | refine qM ?_ ?_)); all_goals (first | (rw [List.length_map]; done) | rfl | exact nofun)))
        refine qu (fun n σ => ∃ (i : Nat) (u : List Ent), i ≤ j.coms.length ∧ n = j.coms.length - i ∧ (R = yB (j.first + i) u (j.coms.drop i) ∧ Right u) ∧ σ = ⟨[(1, .op 0 0 0), (5, .op 1 0 0), (6, .mp 2), (39, Qx j.coms), (40, .v (.int .i64 j.coms.length)), (41, .v (.int .i64 (i : Int)))], [(0, .own false 3 [j.row]), (1, .own false 4 [Jr j u]), (2, .mp (zb ((j.coms.take i).map Com.key)))], 3⟩) j.coms.length ⟨0, j.base, Nat.zero_le _, rfl, ⟨by rw [← hRR]; simp, hR⟩, rfl⟩ ?_
        rintro n σ ⟨i, u, hi, rfl, ⟨hRi, hRu⟩, rfl⟩
        by_cases hlt : i < j.coms.length
        · have hr := qF (f := Com.row) hlt
          have hcs := hb.coms.each j.coms[i] (List.getElem_mem _)
          have hkey := X7 j.coms[i].key
          have hall := WM u j.coms[i].chs j.coms[i].num hRu.big hcs.chs
          have hkm := qcW hlt
          have hkp := Jb ((j.coms.take (i + 1)).map Com.key)
          have hcl : (j.coms[i].chs.map Chg.row).length = j.coms[i].chs.length := List.length_map ..
          have hnil : j.coms[i].chs = [] ↔ j.coms[i].chs.length = 0 := List.length_eq_zero_iff.symm
          rw [Vt hlt] at hRi
          by_cases hce : vP (j.first + i) j.coms[i] = 0
          · obtain ⟨e1, e2, e3, e4⟩ := wB hce
            rw [if_neg (by simp [hce])] at hRi
            rw [e3] at hkey
            have hRn := @kS j.coms[i].num u j.coms[i].chs hRu
            generalize vb j.coms[i].num u j.coms[i].chs = T at *
            obtain ⟨t2, n2, er⟩ := T
            by_cases hz : er = 0
            · subst hz
              rw [if_neg (by simp)] at hRi
              have hRn := hRn rfl
              have hRi2 : R = yB (j.first + ((i + 1 : Nat) : Int)) t2 (j.coms.drop (i + 1)) := by rw [hRi]; congr 1; omega
              clear hRi hRR hE hce e3
              repeat' (first | refine qe ?_ | (first | refine xsF Tryz.func118 (hkey ..) ?_ | refine xsQ Tryz.func119 (hall ..) ?_ | (apply y8; apply xC; rfl; rfl; rfl; rfl; rfl; rfl; rfl; rfl)) | ((first | refine qc ?_ ?_ | refine qb ?_ ?_ | refine xsC ?_ ?_); all_goals (intro hc; have hp := hc; try simp at hp; try (exfalso; omega))) | refine qw ?_ ?_)
              all_goals try (exfalso; first | omega | (simp_all; done))
              refine ⟨j.coms.length - (i + 1), _, by omega, jq (τ := ⟨[(1, .op 0 0 0), (5, .op 1 0 0), (6, .mp 2), (39, Qx j.coms), (40, .v (.int .i64 j.coms.length)), (41, .v (.int .i64 ((i + 1 : Nat) : Int)))], [(0, .own false 3 [j.row]), (1, .own false 4 [Jr j t2]), (2, .mp (zb ((j.coms.take (i + 1)).map Com.key)))], 3⟩) [(0, 0), (1, 1), (2, 2)] rfl ?gts ?ghs, i + 1, t2, by omega, rfl, ⟨hRi2, hRn⟩, rfl⟩; (case gts => (repeat (first | exact qd | refine qi ?_ | refine xM ?_ | refine qdZ ?_ | refine qg5 ?_ | refine qd8 ?_ ?_ | refine qR ?_ ?_)); all_goals (first | (rw [hkm]; rfl) | exact hkp | rfl)); (case ghs => (repeat (first | exact qg | refine Q9 ?_ | refine qhq ?_ ?_ ?_ | refine qM ?_ ?_)); all_goals (first | (rw [hkm]; rfl) | exact hkp | rfl))
            · rw [if_pos hz] at hRi
              rw [hRi, if_pos hz] at hE
              rw [hE, kz hz]
              clear hRi hRR hE hce e3
              repeat' (first | refine qe ?_ | (first | refine xsF Tryz.func118 (hkey ..) ?_ | refine xsQ Tryz.func119 (hall ..) ?_) | ((first | refine qc ?_ ?_ | refine qb ?_ ?_ | refine xsC ?_ ?_); all_goals (intro hc; have hp := hc; try simp at hp; try (exfalso; omega))) | refine qw ?_ ?_)
              all_goals try (exfalso; first | omega | (simp_all; done))
              (exact yv (rs := [.tmp 2, .tmp 3]))
          · rw [if_pos hce] at hRi
            rw [hRi, if_pos hce] at hE
            rw [hE, kz hce]
            clear hRi hRR hE hk hkm hkp hall hRu
            have hcv : vP (j.first + i) j.coms[i] = if ¬ j.coms[i].num = j.first + i then 4 else if 1000000 < j.coms[i].num then 3 else if vD j.coms[i].key = false ∨ j.coms[i].chs = [] then 1 else 0 := rfl
            generalize vD j.coms[i].key = KK at *
            generalize hCE : vP (j.first + i) j.coms[i] = CE at *
            clear hCE
            by_cases n1 : j.coms[i].num = j.first + i
            · rw [if_neg (by simp [n1])] at hcv
              by_cases n2 : 1000000 < j.coms[i].num
              · rw [if_pos n2] at hcv
                subst hcv
                (repeat' (first | refine qe ?_ | (first | refine xsF Tryz.func118 (hkey ..) ?_) | ((first | refine qc ?_ ?_ | refine qb ?_ ?_ | refine xsC ?_ ?_); all_goals (intro hc; have hp := hc; try simp at hp; try (exfalso; omega))) | refine qw ?_ ?_))
                (all_goals try (exfalso; first | omega | contradiction))
                (all_goals ((exact yv (rs := [.tmp 2, .tmp 3]))))
              · rw [if_neg n2] at hcv
                have hz : KK = false ∨ j.coms[i].chs.length = 0 := by
                  by_cases hq : KK = false ∨ j.coms[i].chs = []
                  · exact hq.imp id hnil.1
                  · rw [if_neg hq] at hcv; exact absurd hcv hce
                obtain rfl : CE = 1 := by rw [hcv, if_pos (hz.imp id hnil.2)]
                clear hcv hce
                cases KK with
                | false =>
                  (repeat' (first | refine qe ?_ | (first | refine xsF Tryz.func118 (hkey ..) ?_) | ((first | refine qc ?_ ?_ | refine qb ?_ ?_ | refine xsC ?_ ?_); all_goals (intro hc; have hp := hc; try simp at hp; try (exfalso; omega))) | refine qw ?_ ?_))
                  (all_goals try (exfalso; first | omega | contradiction))
                  (all_goals ((exact yv (rs := [.tmp 2, .tmp 3]))))
                | true =>
                  have hz : j.coms[i].chs.length = 0 := hz.resolve_left (by decide)
                  have hz2 := hnil.2 hz
                  (repeat' (first | refine qe ?_ | (first | refine xsF Tryz.func118 (hkey ..) ?_) | ((first | refine qc ?_ ?_ | refine qb ?_ ?_ | refine xsC ?_ ?_); all_goals (intro hc; have hp := hc; try simp at hp; try (exfalso; omega))) | refine qw ?_ ?_))
                  (all_goals try (exfalso; first | omega | contradiction))
                  (all_goals ((exact yv (rs := [.tmp 2, .tmp 3]))))
            · rw [if_pos n1] at hcv
              subst hcv
              (repeat' (first | refine qe ?_ | (first | refine xsF Tryz.func118 (hkey ..) ?_) | ((first | refine qc ?_ ?_ | refine qb ?_ ?_ | refine xsC ?_ ?_); all_goals (intro hc; have hp := hc; try simp at hp; try (exfalso; omega))) | refine qw ?_ ?_))
              (all_goals try (exfalso; first | omega | contradiction))
              (all_goals ((exact yv (rs := [.tmp 2, .tmp 3]))))
        · obtain rfl : i = j.coms.length := by omega
          rw [List.drop_length] at hRi
          rw [hRi, if_neg (by simp [yB])] at hE
          rw [List.take_length]
          have hE : O = if K = true then (u, 0) else ([], 6) := hE
          refine kf 5 1 ?_
          cases K with
          | true =>
            rw [if_pos rfl] at hE
            have hk := hk.1 rfl
            rw [hE]
            clear hRi hRR hE
            repeat' (first | refine qe ?_ | (first | (apply qj; apply vB; rfl; rfl; rfl; rfl; exact nle rfl)) | ((first | refine qc ?_ ?_ | refine qb ?_ ?_ | refine xsC ?_ ?_); all_goals (intro hc; have hp := hc; try simp at hp; try (exfalso; omega))) | refine qw ?_ ?_)
            all_goals try (exfalso; first | omega | (simp_all; done))
            (exact yv (rs := [.tmp 2, .tmp 3]))
          | false =>
            rw [if_neg (by decide)] at hE
            rw [hE, kz (by decide)]
            have hk : (zb (j.coms.map Com.key)).length < j.coms.length := by
              by_cases h : (zb (j.coms.map Com.key)).length < j.coms.length
              · exact h
              · exact absurd (hk.2 h) (by decide)
            clear hRi hRR hE
            repeat' (first | refine qe ?_ | (first | (apply qj; apply vB; rfl; rfl; rfl; rfl; exact nle rfl)) | ((first | refine qc ?_ ?_ | refine qb ?_ ?_ | refine xsC ?_ ?_); all_goals (intro hc; have hp := hc; try simp at hp; try (exfalso; omega))) | refine qw ?_ ?_)
            all_goals try (exfalso; first | omega | (simp_all; done))
            (exact yv (rs := [.tmp 2, .tmp 3]))
  · rw [if_pos h1] at hE
    rw [hE, kz h1]
    generalize jx j.base = E at *
    refine qa Tryz.func74 rfl _ Tryz.ntmps74 (Nat.le_of_ble_eq_true rfl) _ Tryz.results74 0 rfl rfl ?_
    repeat' (first | refine qe ?_ | (first | refine xsQ Tryz.func117 (hc ..) ?_) | ((first | refine qc ?_ ?_ | refine qb ?_ ?_ | refine xsC ?_ ?_); all_goals (intro hc; have hp := hc; try simp at hp; try (exfalso; omega))) | refine qw ?_ ?_)
    all_goals try (exfalso; omega)
    all_goals ((exact yv (rs := [.tmp 2, .tmp 3])))
end Go.Proofs.YtiljlcgmcmjcoaaGreatDoor
set_option linter.unusedSimpArgs false
set_option linter.unnecessarySimpa false
set_option linter.unusedVariables false
set_option maxHeartbeats 1000000
namespace Go.Proofs.YtiljlcgmcmjcoaaGreatDoor
open Go.Ab Go.RowKit
set_option maxRecDepth 10000
attribute [local irreducible] Awp jV q9 qJ Red qy Go.Ab.Fin ql Rz yQ qA qG ResOk jC q6 jH qT
def wy (l : List (List Ent)) : AV := .sl false (l.map zT)
def VW (j : Jou) : List (List Ent) × Int := if xH j = 0 then (j.base :: Yq j.base j.coms, 0) else ([], xH j)
def qa8 (r : List (List Ent) × Int) : AV := .tup [wy r.1, .v (.int .i64 r.2)]
theorem qfs (j : Jou) : xH j = if ¬ jx j.base = 0 then jx j.base else if j.first < 1 ∨ 1000000 < j.first then 3 else if 30 < j.coms.length then 2
  else if ¬ (yB j.first j.base j.coms).2 = 0 then (yB j.first j.base j.coms).2 else if zE j.coms = true then 0 else 6 := rfl
theorem XM {n : Int} : xW n = true ↔ ¬ (n < 1 ∨ 1000000 < n) := by simp [xW]
theorem qfF (j : Jou) (hb : JBig j) : jY C.P 64 [.agg j.row] (qa8 (VW j)) := by
  have hc := Kx j.base hb.base
  have hv := VA j.first
  have hml : (j.coms.map Com.row).length = j.coms.length := List.length_map ..
  have hE := qfs j
  have hT : VW j = if xH j = 0 then (j.base :: Yq j.base j.coms, 0) else ([], xH j) := rfl
  by_cases h1 : jx j.base = 0
  · rw [if_neg (by simp [h1])] at hE
    rw [h1] at hc
    by_cases h2 : j.first < 1 ∨ 1000000 < j.first
    · rw [if_pos h2] at hE
      rw [hE, if_neg (by decide)] at hT
      rw [hT]
      have hv2 : xW j.first = false := by
        cases h : xW j.first with
        | false => rfl
        | true => exact absurd h2 (XM.1 h)
      rw [hv2] at hv
      refine qa Tryz.func64 rfl _ Tryz.ntmps64 (Nat.le_of_ble_eq_true rfl) _ Tryz.results64 0 rfl rfl ?_
      repeat' (first | refine qe ?_ | (first | refine xsQ Tryz.func109 (hc ..) ?_ | refine xsF Tryz.func110 (hv ..) ?_) | ((first | refine xsC ?_ ?_); all_goals (intro hc; have hp := hc; try simp at hp; try (exfalso; omega))) | refine qw ?_ ?_)
      all_goals try (exfalso; omega)
      all_goals ((exact yv (rs := [.tmp 2, .tmp 3])))
    · rw [if_neg h2] at hE
      rw [XM.2 h2] at hv
      by_cases h3 : 30 < j.coms.length
      · rw [if_pos h3] at hE
        rw [hE, if_neg (by decide)] at hT
        rw [hT]
        refine qa Tryz.func64 rfl _ Tryz.ntmps64 (Nat.le_of_ble_eq_true rfl) _ Tryz.results64 0 rfl rfl ?_
        repeat' (first | refine qe ?_ | (first | refine xsQ Tryz.func109 (hc ..) ?_ | refine xsF Tryz.func110 (hv ..) ?_) | ((first | refine xsC ?_ ?_); all_goals (intro hc; have hp := hc; try simp at hp; try (exfalso; omega))) | refine qw ?_ ?_)
        all_goals try (exfalso; omega)
        all_goals ((exact yv (rs := [.tmp 2, .tmp 3])))
      · rw [if_neg h3] at hE
        have hR := zL.1 h1
        generalize hRR : yB j.first j.base j.coms = R at *
        generalize hTT : Yq j.base j.coms = TT at *
        generalize VW j = O at *
        generalize xH j = JE at *
        refine qa Tryz.func64 rfl _ Tryz.ntmps64 (Nat.le_of_ble_eq_true rfl) _ Tryz.results64 0 rfl rfl ?_
        (repeat apply j0); apply jm; (repeat' (first | apply jL | refine zc ?_ | refine zd ?_ | refine zi ?_ | refine kV ?_ | refine za ?_ | refine ze ?_ | refine Qu ?_ | refine wj ?_ | refine JH ?_ | refine wI ?_ | refine zl ?_ | refine vH ?_ | (first | fail) | refine xl ?_)); show Awp _ _ _ _ _
        refine kf 1 0 ?_
        repeat' (first | refine qe ?_ | (first | refine xsQ Tryz.func109 (hc ..) ?_ | refine xsF Tryz.func110 (hv ..) ?_ | (refine qg8 ?_)) | ((first | refine xsC ?_ ?_); all_goals (intro hc; have hp := hc; try simp at hp; try (exfalso; omega))) | refine qw ?_ ?_)
        all_goals try (exfalso; omega)
        (refine Awp.red (jq (τ := ⟨[(1, .fp [j.row] 0 0), (5, .os 0 0 1), (6, qq j.base), (7, .v (.int .i64 ((0 : Nat) : Int)))], [(0, .own false 1 [zT j.base])], 1⟩) [(1, 0)] rfl ?gts ?ghs) ?gmain; (case gts => (repeat (first | exact qd | refine qi ?_ | refine xM ?_ | refine vc ?_ | refine qR ?_ ?_))); (case ghs => (repeat (first | exact qg | refine jQ ?_ | refine qM ?_ ?_))))
        refine qu (fun n σ => ∃ (i : Nat) (u : List Ent) (S : List (List Ent)), i ≤ j.coms.length ∧ n = j.coms.length - i ∧ (R = yB (j.first + i) u (j.coms.drop i) ∧ Right u ∧ j.base :: TT = S ++ Yq u (j.coms.drop i) ∧ S.length = i + 1) ∧ σ = ⟨[(1, .fp [j.row] 0 0), (5, .os 0 0 S.length), (6, qq u), (7, .v (.int .i64 (i : Int)))], [(0, .own false 1 (S.map zT))], 1⟩) j.coms.length ⟨0, j.base, [j.base], Nat.zero_le _, rfl, ⟨by rw [← hRR]; simp, hR, by rw [← hTT]; rfl, rfl⟩, rfl⟩ ?_
        rintro n σ ⟨i, u, S, hi, rfl, ⟨hRi, hRu, hTi, hSl⟩, rfl⟩
        by_cases hlt : i < j.coms.length
        · have hr := qF (f := Com.row) hlt
          have hcs := hb.coms.each j.coms[i] (List.getElem_mem _)
          have hkl := hcs.key
          have hkey := qeq j.coms[i].key (by omega)
          have hall := qfl u j.coms[i].chs j.coms[i].num hRu.len (RightE.of (zL.2 hRu)) hcs.chs
          rw [← Vp hRu] at hall
          have hcl : (j.coms[i].chs.map Chg.row).length = j.coms[i].chs.length := List.length_map ..
          have hsl : (S.map zT).length = S.length := List.length_map ..
          have hnil : j.coms[i].chs = [] ↔ j.coms[i].chs.length = 0 := List.length_eq_zero_iff.symm
          rw [Vt hlt] at hRi
          rw [qaZ hlt] at hTi
          by_cases hce : vP (j.first + i) j.coms[i] = 0
          · obtain ⟨e1, e2, e3, e4⟩ := wB hce
            rw [if_neg (by simp [hce])] at hRi
            rw [e3] at hkey
            have hRn := @kS j.coms[i].num u j.coms[i].chs hRu
            generalize vb j.coms[i].num u j.coms[i].chs = T at *
            obtain ⟨t2, n2, er⟩ := T
            by_cases hz : er = 0
            · subst hz
              rw [if_neg (by simp)] at hRi
              have hRn := hRn rfl
              have hRi2 : R = yB (j.first + ((i + 1 : Nat) : Int)) t2 (j.coms.drop (i + 1)) := by rw [hRi]; congr 1; omega
              have hTi2 : j.base :: TT = (S ++ [t2]) ++ Yq t2 (j.coms.drop (i + 1)) := by rw [hTi]; simp
              clear hRi hRR hE hce e3 hTi hTT hT
              repeat' (first | refine qe ?_ | (first | refine xsF Tryz.func96 (hkey ..) ?_ | refine xsQ Tryz.func97 (hall ..) ?_ | (refine jZ ?_) | (refine xw ?_)) | ((first | refine xsC ?_ ?_); all_goals (intro hc; have hp := hc; try simp at hp; try (exfalso; omega))) | refine qw ?_ ?_)
              all_goals try (exfalso; first | omega | contradiction)
              refine ⟨j.coms.length - (i + 1), _, by omega, jq (τ := ⟨[(1, .fp [j.row] 0 0), (5, .os 0 0 (S ++ [t2]).length), (6, qq t2), (7, .v (.int .i64 ((i + 1 : Nat) : Int)))], [(0, .own false 1 ((S ++ [t2]).map zT))], 1⟩) [(2, 0)] rfl ?gts ?ghs, i + 1, t2, S ++ [t2], by omega, rfl, ⟨hRi2, hRn, hTi2, by simp [hSl]⟩, rfl⟩
              (case gts => (repeat (first | exact qd | refine qi ?_ | refine xM ?_ | refine vc ?_ | refine qR ?_ ?_)))
              (case ghs => (repeat (first | exact qg | refine jQ ?_ | refine qM ?_ ?_)); all_goals (rw [List.take_of_length_le (by simp), List.map_append]; rfl))
            · rw [if_pos hz] at hRi
              rw [hRi, if_pos hz] at hE
              rw [if_neg (by rw [hE]; exact hz), hE] at hT
              rw [hT]
              clear hRi hRR hE hce e3 hTi hTT hT
              repeat' (first | refine qe ?_ | (first | refine xsF Tryz.func96 (hkey ..) ?_ | refine xsQ Tryz.func97 (hall ..) ?_) | ((first | refine xsC ?_ ?_); all_goals (intro hc; have hp := hc; try simp at hp; try (exfalso; omega))) | refine qw ?_ ?_)
              all_goals try (exfalso; first | omega | contradiction)
              (exact yv (rs := [.tmp 2, .tmp 3]))
          · rw [if_pos hce] at hRi
            rw [hRi, if_pos hce] at hE
            rw [if_neg (by rw [hE]; exact hce), hE] at hT
            rw [hT]
            clear hRi hRR hE hall hRu hTi hTT hT
            have hcv : vP (j.first + i) j.coms[i] = if ¬ j.coms[i].num = j.first + i then 4 else if 1000000 < j.coms[i].num then 3 else if vD j.coms[i].key = false ∨ j.coms[i].chs = [] then 1 else 0 := rfl
            generalize vD j.coms[i].key = KK at *
            generalize hCE : vP (j.first + i) j.coms[i] = CE at *
            clear hCE
            by_cases n1 : j.coms[i].num = j.first + i
            · rw [if_neg (by simp [n1])] at hcv
              by_cases n2 : 1000000 < j.coms[i].num
              · rw [if_pos n2] at hcv
                subst hcv
                (repeat' (first | refine qe ?_ | (first | refine xsF Tryz.func96 (hkey ..) ?_) | ((first | refine xsC ?_ ?_); all_goals (intro hc; have hp := hc; try simp at hp; try (exfalso; omega))) | refine qw ?_ ?_))
                (all_goals try (exfalso; first | omega | contradiction))
                (all_goals ((exact yv (rs := [.tmp 2, .tmp 3]))))
              · rw [if_neg n2] at hcv
                have hz : KK = false ∨ j.coms[i].chs.length = 0 := by
                  by_cases hq : KK = false ∨ j.coms[i].chs = []
                  · exact hq.imp id hnil.1
                  · rw [if_neg hq] at hcv; exact absurd hcv hce
                obtain rfl : CE = 1 := by rw [hcv, if_pos (hz.imp id hnil.2)]
                clear hcv hce
                cases KK with
                | false =>
                  (repeat' (first | refine qe ?_ | (first | refine xsF Tryz.func96 (hkey ..) ?_) | ((first | refine xsC ?_ ?_); all_goals (intro hc; have hp := hc; try simp at hp; try (exfalso; omega))) | refine qw ?_ ?_))
                  (all_goals try (exfalso; first | omega | contradiction))
                  (all_goals ((exact yv (rs := [.tmp 2, .tmp 3]))))
                | true =>
                  have hz : j.coms[i].chs.length = 0 := hz.resolve_left (by decide)
                  have hz2 := hnil.2 hz
                  (repeat' (first | refine qe ?_ | (first | refine xsF Tryz.func96 (hkey ..) ?_) | ((first | refine xsC ?_ ?_); all_goals (intro hc; have hp := hc; try simp at hp; try (exfalso; omega))) | refine qw ?_ ?_))
                  (all_goals try (exfalso; first | omega | contradiction))
                  (all_goals ((exact yv (rs := [.tmp 2, .tmp 3]))))
            · rw [if_pos n1] at hcv
              subst hcv
              (repeat' (first | refine qe ?_ | (first | refine xsF Tryz.func96 (hkey ..) ?_) | ((first | refine xsC ?_ ?_); all_goals (intro hc; have hp := hc; try simp at hp; try (exfalso; omega))) | refine qw ?_ ?_))
              (all_goals try (exfalso; first | omega | contradiction))
              (all_goals ((exact yv (rs := [.tmp 2, .tmp 3]))))
        · obtain rfl : i = j.coms.length := by omega
          rw [List.drop_length] at hRi hTi
          have hTi : j.base :: TT = S := by rw [hTi]; simp [Yq]
          subst hTi
          rw [hRi, if_neg (by simp [yB])] at hE
          refine Awp.red (kP 0 rfl (by intro row hrow; obtain ⟨x, _, rfl⟩ := List.mem_map.1 hrow; rfl)) ?_
          refine Awp.red (K5 5 0 rfl rfl (by simp)) ?_
          (repeat' (first | refine qe ?_ | (first | fail) | ((first | refine xsC ?_ ?_); all_goals (intro hc; have hp := hc; try simp at hp; try (exfalso; omega))) | refine qw ?_ ?_))
          (all_goals try (exfalso; omega))
          have hE : JE = if zE j.coms = true then 0 else 6 := hE
          clear hRi hRR hTT
          (refine Awp.red (qh (ts := [(1, .fp [j.row] 0 0), (5, wy (j.base :: TT)), (9, .v (.int .i64 ((0 : Nat) : Int)))]) ?_) ?_; ((repeat (first | exact qd | refine qi ?_ | refine qR ?_ ?_))))
          all_goals try (rw [List.drop_zero, List.take_of_length_le (by simp)]; rfl)
          refine qu (fun n σ => ∃ i : Nat, i ≤ j.coms.length ∧ n = j.coms.length - i ∧ (((j.coms.take i).map Com.key).Nodup) ∧ σ = ⟨[(1, .fp [j.row] 0 0), (5, wy (j.base :: TT)), (9, .v (.int .i64 (i : Int)))], [], C.nh⟩) j.coms.length ⟨0, Nat.zero_le _, rfl, (by simp), rfl⟩ ?_
          rintro n σ ⟨i, hi2, rfl, hnd, rfl⟩
          by_cases hlt2 : i < j.coms.length
          · repeat' (first | refine qe ?_ | fail | ((first | refine xsC ?_ ?_); all_goals (intro hc; have hp := hc; try simp at hp; try (exfalso; omega))) | refine qw ?_ ?_)
            all_goals try (exfalso; omega)
            (refine Awp.red (qh (ts := [(1, .fp [j.row] 0 0), (5, wy (j.base :: TT)), (9, .v (.int .i64 (i : Int))), (10, .v (.int .i64 ((0 : Nat) : Int)))]) ?_) ?_; ((repeat (first | exact qd | refine qi ?_ | refine qR ?_ ?_))))
            refine qu (fun n σ => ∃ k : Nat, k ≤ i ∧ n = i - k ∧ (∀ c, c ∈ j.coms.take k → ¬ c.key = j.coms[i].key) ∧ σ = ⟨[(1, .fp [j.row] 0 0), (5, wy (j.base :: TT)), (9, .v (.int .i64 (i : Int))), (10, .v (.int .i64 (k : Int)))], [], C.nh⟩) i ⟨0, Nat.zero_le _, rfl, (by simp), rfl⟩ ?_
            rintro n σ ⟨k, hk, rfl, hne, rfl⟩
            have hr2 := qF (f := Com.row) hlt2
            by_cases hki : k < i
            · have hr1 := qF (f := Com.row) (l := j.coms) (i := k) (by omega)
              have hnx := qK (l := j.coms) (p := fun c => ¬ c.key = j.coms[i].key) (by omega) hne
              by_cases heq : (j.coms[k]'(by omega)).key = j.coms[i].key
              · have hbad : zE j.coms = false := by
                  unfold zE
                  rw [decide_eq_false_iff_not]
                  intro h
                  have := (List.pairwise_iff_getElem.1 h) k i (by simp; omega) (by simpa using hlt2) hki
                  exact this (by simpa using heq)
                rw [hbad, if_neg (by decide)] at hE
                rw [hE, if_neg (by decide)] at hT
                rw [hT]
                repeat' (first | refine qe ?_ | fail | ((first | refine xsC ?_ ?_); all_goals (intro hc; have hp := hc; try simp at hp; try (exfalso; omega))) | refine qw ?_ ?_)
                all_goals try (exfalso; first | omega | contradiction)
                all_goals ((exact yv (rs := [.tmp 2, .tmp 3])))
              · repeat' (first | refine qe ?_ | fail | ((first | refine xsC ?_ ?_); all_goals (intro hc; have hp := hc; try simp at hp; try (exfalso; omega))) | refine qw ?_ ?_)
                all_goals try (exfalso; first | omega | contradiction)
                refine ⟨i - (k + 1), _, by omega, qh (ts := [(1, .fp [j.row] 0 0), (5, wy (j.base :: TT)), (9, .v (.int .i64 (i : Int))), (10, .v (.int .i64 ((k + 1 : Nat) : Int)))]) ?_, k + 1, by omega, rfl, hnx heq, rfl⟩; ((repeat (first | exact qd | refine qi ?_ | refine qR ?_ ?_)))
            · obtain rfl : k = i := by omega
              have hnd2 : ((j.coms.take (k + 1)).map Com.key).Nodup := by
                rw [List.take_succ_eq_append_getElem hlt2, List.map_append, List.nodup_append]
                refine ⟨hnd, by simp, fun a ha b hb => ?_⟩
                obtain ⟨c, hc1, rfl⟩ := List.mem_map.1 ha
                have hb : b = j.coms[k].key := by simpa using hb
                rw [hb]; exact hne c hc1
              repeat' (first | refine qe ?_ | fail | ((first | refine xsC ?_ ?_); all_goals (intro hc; have hp := hc; try simp at hp; try (exfalso; omega))) | refine qw ?_ ?_)
              all_goals try (exfalso; omega)
              refine ⟨j.coms.length - (k + 1), _, by omega, qh (ts := [(1, .fp [j.row] 0 0), (5, wy (j.base :: TT)), (9, .v (.int .i64 ((k + 1 : Nat) : Int)))]) ?_, k + 1, by omega, rfl, hnd2, rfl⟩; ((repeat (first | exact qd | refine qi ?_ | refine qR ?_ ?_)))
          · obtain rfl : i = j.coms.length := by omega
            rw [List.take_length] at hnd
            rw [show zE j.coms = true from decide_eq_true hnd, if_pos rfl] at hE
            rw [if_pos hE] at hT
            rw [hT]
            repeat' (first | refine qe ?_ | fail | ((first | refine xsC ?_ ?_); all_goals (intro hc; have hp := hc; try simp at hp; try (exfalso; omega))) | refine qw ?_ ?_)
            all_goals try (exfalso; omega)
            all_goals ((exact yv (rs := [.tmp 2, .tmp 3])))
  · rw [if_pos h1] at hE
    rw [hE, if_neg h1] at hT
    rw [hT]
    generalize jx j.base = E at *
    refine qa Tryz.func64 rfl _ Tryz.ntmps64 (Nat.le_of_ble_eq_true rfl) _ Tryz.results64 0 rfl rfl ?_
    repeat' (first | refine qe ?_ | (first | refine xsQ Tryz.func109 (hc ..) ?_) | ((first | refine xsC ?_ ?_); all_goals (intro hc; have hp := hc; try simp at hp; try (exfalso; omega))) | refine qw ?_ ?_)
    all_goals try (exfalso; omega)
    all_goals ((exact yv (rs := [.tmp 2, .tmp 3])))
end Go.Proofs.YtiljlcgmcmjcoaaGreatDoor
set_option linter.unusedSimpArgs false
set_option linter.unnecessarySimpa false
set_option linter.unusedVariables false
set_option maxHeartbeats 1000000
namespace Go.Proofs.YtiljlcgmcmjcoaaGreatDoor
open Go.Ab Go.RowKit
set_option maxRecDepth 10000
attribute [local irreducible] Awp jV q9 qJ Red qy Go.Ab.Fin ql Rz yQ qA qG ResOk jC q6 jH qT
theorem qen (j : Jou) (hb : JBig j) : jY C.P 41 [.agg j.row] (.v (.int .i64 (xH j))) := by
  have h1 := qfF j hb
  have h2 : qa8 (VW j) = .tup [wy (VW j).1, .v (.int .i64 (xH j))] := by
    unfold qa8 VW
    split <;> simp_all
  rw [h2] at h1
  generalize (VW j).1 = T at *
  generalize xH j = E at *
  refine qa Tryz.func41 rfl _ Tryz.ntmps41 (Nat.le_of_ble_eq_true rfl) _ Tryz.results41 0 rfl rfl ?_
  repeat' (first | refine qe ?_ | (first | refine xsQ Tryz.func64 (h1 ..) ?_) | ((first | refine xsC ?_ ?_); all_goals (intro hc; have hp := hc; try simp at hp; try (exfalso; omega))) | refine qw ?_ ?_)
  apply qD
  rfl
  rfl
end Go.Proofs.YtiljlcgmcmjcoaaGreatDoor
set_option linter.unusedSimpArgs false
set_option linter.unnecessarySimpa false
set_option linter.unusedVariables false
namespace Go.Ab
theorem qhi {h : Nat → HB} {n off len : Nat} {ex : Bool} {k : Nat} {rows rows' : List (List AV)} (he : (rows.drop off).take len = rows') (hp : ∀ row, row ∈ rows' → AV.pure.pureL row = true) (hl : off + len ≤ rows.length) (hn : h n = .own ex k rows := by rfl) : Rz h (.os n off len) (.sl false rows') :=
  by subst he; exact ZV hn hl (vr hp)
theorem VR {α β : Type} {f : α → β} {l : List α} {i : Nat} (h : i < l.length) : (l.map f).set i (f l[i]) = l.map f := by
  rw [← List.map_set, List.set_getElem_self]
end Go.Ab
set_option maxHeartbeats 1000000
namespace Go.Proofs.YtiljlcgmcmjcoaaGreatDoor
open Go.Ab Go.RowKit
set_option maxRecDepth 10000
attribute [local irreducible] Awp jV q9 qJ Red qy Go.Ab.Fin ql Rz yQ qA qG ResOk jC q6 jH qT
theorem W9 (l : List Com) (hl : l.length ≤ 1000000) :
    ql C.P 121 [Qx l] [] (.os 0 0 l.length) [.own false 3 (l.map Com.row)] := by
  by_cases h0 : l = []
  · subst h0
    refine qa Tryz.func121 rfl _ Tryz.ntmps121 (Nat.le_of_ble_eq_true rfl) _ Tryz.results121 0 rfl rfl ?_
    repeat' (first | refine qe ?_ | (first | (refine jZ ?_) | (refine vT ?_) | (refine Ja ?_)) | ((first | refine xsC ?_ ?_); all_goals (intro hc; have hp := hc; try simp at hp; try (exfalso; omega))) | refine qw ?_ ?_)
    · (refine wz (C := C) (vw (C := C) 2 3 rfl (Nat.zero_le _)) ?_)
      (refine w8 (rs := [.tmp 2]) [(0, 0)] 1 ?_; (repeat (first | exact qg | refine jQ ?_ | refine qM ?_ ?_)); all_goals skip)
    · (refine w8 (rs := [.tmp 2]) [(0, 0)] 1 ?_; (repeat (first | exact qg | refine jQ ?_ | refine qM ?_ ?_)); all_goals skip)
  · refine qa Tryz.func121 rfl _ Tryz.ntmps121 (Nat.le_of_ble_eq_true rfl) _ Tryz.results121 0 rfl rfl ?_
    repeat' (first | refine qe ?_ | (first | (refine jZ ?_) | (refine vT ?_) | (apply qj; apply kH; rfl; exact (fun h => h0 (List.map_eq_nil_iff.1 h)); rfl; rfl; (first | exact .inl rfl | exact .inr rfl); exact nle rfl)) | ((first | refine xsC ?_ ?_); all_goals (intro hc; have hp := hc; try simp at hp; try (exfalso; omega))) | refine qw ?_ ?_)
    (refine w8 (rs := [.tmp 2]) [(0, 0)] 1 ?_; (repeat (first | exact qg | refine jQ ?_ | refine qM ?_ ?_)); all_goals skip)
theorem Yz (l : List Com) (hl : l.length ≤ 1000000) (hc : ∀ c, c ∈ l → c.chs.length ≤ 1000000) :
    ql C.P 153 [Qx l] [] (.os 0 0 l.length) [.own false 3 (l.map Com.row)] := by
  have h1 := W9 l hl
  refine qa Tryz.func153 rfl _ Tryz.ntmps153 (Nat.le_of_ble_eq_true rfl) _ Tryz.results153 0 rfl rfl ?_
  repeat' (first | refine qe ?_ | (first | (apply qH Tryz.func121 rfl rfl; intro hIsFn; refine j6 ([]) hIsFn (h1 ..) ?_)) | ((first | refine xsC ?_ ?_); all_goals (intro hc; have hp := hc; try simp at hp; try (exfalso; omega))) | refine qw ?_ ?_)
  all_goals try (exfalso; omega)
  (refine Awp.red (jq (τ := ⟨[(0, .os 0 0 l.length), (7, .os 0 0 l.length), (8, .v (.int .i64 l.length)), (9, .v (.int .i64 ((0 : Nat) : Int)))], [(0, .own false 3 (l.map Com.row))], 1⟩) [(0, 0)] rfl ?gts ?ghs) ?gmain; (case gts => (repeat (first | exact qd | refine qi ?_ | refine xM ?_ | refine vc ?_ | refine qR ?_ ?_))); (case ghs => (repeat (first | exact qg | refine jQ ?_ | refine qM ?_ ?_))))
  refine qu (fun n σ => ∃ i : Nat, i ≤ l.length ∧ n = l.length - i ∧ (True) ∧ σ = ⟨[(0, .os 0 0 l.length), (7, .os 0 0 l.length), (8, .v (.int .i64 l.length)), (9, .v (.int .i64 (i : Int)))], [(0, .own false 3 (l.map Com.row))], 1⟩) l.length ⟨0, Nat.zero_le _, rfl, trivial, rfl⟩ ?_
  rintro n σ ⟨i, hi, rfl, -, rfl⟩
  by_cases hlt : i < l.length
  · have hr := qF (f := Com.row) hlt
    have hcc := Jm l[i].chs (hc _ (List.getElem_mem _))
    have hss := VR (f := Com.row) hlt
    repeat' (first | refine qe ?_ | (first | (refine vk ?_) | refine xsQ Tryz.func122 (hcc ..) ?_) | ((first | refine xsC ?_ ?_); all_goals (intro hc; have hp := hc; try simp at hp; try (exfalso; omega))) | refine qw ?_ ?_)
    all_goals try (exfalso; omega)
    refine ⟨l.length - (i + 1), _, by omega, jq (τ := ⟨[(0, .os 0 0 l.length), (7, .os 0 0 l.length), (8, .v (.int .i64 l.length)), (9, .v (.int .i64 ((i + 1 : Nat) : Int)))], [(0, .own false 3 (l.map Com.row))], 1⟩) [(0, 0)] rfl ?gts ?ghs, i + 1, by omega, rfl, trivial, rfl⟩; (case gts => (repeat (first | exact qd | refine qi ?_ | refine xM ?_ | refine vc ?_ | refine qR ?_ ?_)); all_goals exact hss); (case ghs => (repeat (first | exact qg | refine jQ ?_ | refine qM ?_ ?_)); all_goals exact hss)
  obtain rfl : i = l.length := by omega
  repeat' (first | refine qe ?_ | fail | ((first | refine xsC ?_ ?_); all_goals (intro hc; have hp := hc; try simp at hp; try (exfalso; omega))) | refine qw ?_ ?_)
  all_goals try (exfalso; omega)
  (refine w8 (rs := [.tmp 2]) [(0, 0)] 1 ?_; (repeat (first | exact qg | refine jQ ?_ | refine qM ?_ ?_)); all_goals trace_state)
theorem X2 (j : Jou) (t : List Ent) (h : JRight j) : jY C.P 152 [.fp [Jr j t] 0 0] (.v (.int .i64 (xN j))) := by
  have h1 := h.lo
  have h2 := h.hi
  have h3 := h.len
  have hml : (j.coms.map Com.row).length = j.coms.length := List.length_map ..
  refine qa Tryz.func152 rfl _ Tryz.ntmps152 (Nat.le_of_ble_eq_true rfl) _ Tryz.results152 0 rfl rfl ?_
  repeat' (first | refine qe ?_ | fail | ((first | refine xsC ?_ ?_); all_goals (intro hc; have hp := hc; try simp at hp; try (exfalso; omega))) | refine qw ?_ ?_)
  all_goals try (exfalso; omega)
  apply qD
  rfl
  unfold xN
  rw [hml]
theorem qfc (j : Jou) (hb : JBig j) : jY C.P 38 [.agg j.row] (.v (.int .i64 (xH j))) := by
  have h1 := YN j hb
  have h2 := ZG j
  by_cases hz : xH j = 0
  · rw [ZE hz] at h1
    rw [hz]
    refine qa Tryz.func38 rfl _ Tryz.ntmps38 (Nat.le_of_ble_eq_true rfl) _ Tryz.results38 0 rfl rfl ?_
    repeat' (first | refine qe ?_ | (first | refine xsQ Tryz.func74 (h1 ..) ?_) | ((first | refine xsC ?_ ?_); all_goals (intro hc; have hp := hc; try simp at hp; try (exfalso; omega))) | refine qw ?_ ?_)
    apply qD
    rfl
    rfl
  · have h3 : Vv j (Jz j) = .tup [.v (.pointer none), .v (.int .i64 (xH j))] := by unfold Vv; rw [h2, if_neg hz]
    rw [h3] at h1
    refine qa Tryz.func38 rfl _ Tryz.ntmps38 (Nat.le_of_ble_eq_true rfl) _ Tryz.results38 0 rfl rfl ?_
    repeat' (first | refine qe ?_ | (first | refine xsQ Tryz.func74 (h1 ..) ?_) | ((first | refine xsC ?_ ?_); all_goals (intro hc; have hp := hc; try simp at hp; try (exfalso; omega))) | refine qw ?_ ?_)
    apply qD
    rfl
    rfl
def Z2 (j : Jou) : List Ent × Int := if xH j = 0 then (vf j, 0) else ([], xH j)
theorem Ze {j : Jou} (h : ¬ xH j = 0) : Vv j (Jz j) = .tup [.v (.pointer none), .v (.int .i64 (xH j))] := by unfold Vv; rw [ZG, if_neg h]
theorem YA {j : Jou} (h : xH j = 0) : Vv j (Jz j) = .tup [.fp [Jr j (vf j)] 0 0, .v (.int .i64 0)] := by rw [ZE h]; rfl
theorem qfv (j : Jou) (hb : JBig j) : jY C.P 59 [.agg j.row] (.tup [qq (Z2 j).1, .v (.int .i64 (Z2 j).2)]) := by
  have h1 := YN j hb
  by_cases hz : xH j = 0
  · rw [YA hz] at h1
    have hR := (y7.1 hz).now
    have h2 := kC (vf j) (by have := hR.len; omega)
    unfold Z2
    rw [if_pos hz]
    generalize vf j = U at *
    refine qa Tryz.func59 rfl _ Tryz.ntmps59 (Nat.le_of_ble_eq_true rfl) _ Tryz.results59 0 rfl rfl ?_
    repeat' (first | refine qe ?_ | (first | refine xsQ Tryz.func74 (h1 ..) ?_ | refine xsQ Tryz.func101 (h2 ..) ?_) | ((first | refine xsC ?_ ?_); all_goals (intro hc; have hp := hc; try simp at hp; try (exfalso; omega))) | refine qw ?_ ?_)
    all_goals try (exfalso; omega)
    (exact yv (rs := [.tmp 2, .tmp 3]))
  · rw [Ze hz] at h1
    unfold Z2
    rw [if_neg hz]
    generalize xH j = E at *
    refine qa Tryz.func59 rfl _ Tryz.ntmps59 (Nat.le_of_ble_eq_true rfl) _ Tryz.results59 0 rfl rfl ?_
    repeat' (first | refine qe ?_ | (first | refine xsQ Tryz.func74 (h1 ..) ?_) | ((first | refine xsC ?_ ?_); all_goals (intro hc; have hp := hc; try simp at hp; try (exfalso; omega))) | refine qw ?_ ?_)
    all_goals try (exfalso; omega)
    (exact yv (rs := [.tmp 2, .tmp 3]))
end Go.Proofs.YtiljlcgmcmjcoaaGreatDoor
set_option linter.unusedSimpArgs false
set_option linter.unnecessarySimpa false
set_option linter.unusedVariables false
set_option maxHeartbeats 1000000
namespace Go.Proofs.YtiljlcgmcmjcoaaGreatDoor
open Go.Ab Go.RowKit
set_option maxRecDepth 10000
attribute [local irreducible] Awp jV q9 qJ Red qy Go.Ab.Fin ql Rz yQ qA qG ResOk jC q6 jH qT
end Go.Proofs.YtiljlcgmcmjcoaaGreatDoor
set_option linter.unusedSimpArgs false
set_option linter.unnecessarySimpa false
set_option linter.unusedVariables false
set_option maxHeartbeats 1000000
namespace Go.Proofs.YtiljlcgmcmjcoaaGreatDoor
open Go.Ab Go.RowKit
set_option maxRecDepth 10000
attribute [local irreducible] Awp jV q9 qJ Red qy Go.Ab.Fin ql Rz yQ qA qG ResOk jC q6 jH qT
end Go.Proofs.YtiljlcgmcmjcoaaGreatDoor
