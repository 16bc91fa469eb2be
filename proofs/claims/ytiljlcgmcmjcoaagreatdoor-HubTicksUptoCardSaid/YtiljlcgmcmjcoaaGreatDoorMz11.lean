import Derived.Test.YtiljlcgmcmjcoaaGreatDoorMz10
import Derived.Test.YtiljlcgmcmjcoaaGreatDoorMz9
set_option linter.unusedSimpArgs false
set_option linter.unnecessarySimpa false
set_option linter.unusedVariables false
set_option maxHeartbeats 1000000
namespace Go.Proofs.YtiljlcgmcmjcoaaGreatDoor
open Go.Ab Go.RowKit
set_option maxRecDepth 10000
attribute [local irreducible] Awp jZ jg qJ Red qz Go.Ab.Fin qm Rz y0 qB qG ResOk jG q9 jK qV
def jV (p : Ent → Bool) (t : List Ent) : List Ent := t.filter fun x => !p x
theorem Qw {p : Ent → Bool} {t : List Ent} {j : Nat} (h : j < t.length) : jV p (t.take (j + 1)) = if p t[j] = true then jV p (t.take j) else jV p (t.take j) ++ [t[j]] := by
  unfold jV
  rw [List.take_succ_eq_append_getElem h, List.filter_append]
  cases hs : p t[j] <;> simp [hs]
theorem XE (p : Ent → Bool) (t : List Ent) (j : Nat) (hj : j ≤ t.length) : (jV p (t.take j)).length ≤ j := by
  have h1 : (jV p (t.take j)).length ≤ (t.take j).length := List.length_filter_le ..
  simp at h1; omega
theorem Wk (p : Ent → Bool) (g : FuncId) (hg : IsFn C1.P g) (cap : List AV) (hcap : AV.pure.pureL cap = true) (t : List Ent) (hl : t.length ≤ 1000000) (hcf : ∀ s, s ∈ t → jT C1.P g (AV.agg s.row :: cap) (.v (.bool (p s)))) :
    qm C1.P 200 [.os 0 0 t.length, .clo (.func g) [] cap] [.own false 4 (t.map Ent.row)] (.os 0 0 (jV p t).length) [.own false 4 ((jV p t).map Ent.row)] := by
  have hidx := WN p g hg cap hcap t hl hcf
  refine qa (C := C1) Tryz.func200 rfl _ Tryz.ntmps200 (Nat.le_of_ble_eq_true rfl) _ Tryz.results200 1 rfl rfl ?_
  rcases xt p t with ⟨h1, h2⟩ | ⟨k, hk, h1, h2, h3⟩
  · have hall : jV p t = t := List.filter_eq_self.2 fun x hx => by rw [h2 x hx]; rfl
    rw [h1] at hidx
    rw [hall]
    repeat' (first | refine qe ?_ | (first | (apply qj; apply yi ([0]); exact jJ Tryz.func198 rfl rfl; exact hidx; (case hz => (exact ql (yf rfl (by simp) (ju fun _ => rfl)) (ql (xr hcap) qT))); (case hfl => rfl); (case hN => exact nle rfl))) | ((first | refine qb ?_ ?_ | refine qc ?_ ?_ | refine xsC ?_ ?_); all_goals (intro hc; have hp := hc; try simp at hp; try (exfalso; omega))) | refine qv ?_ ?_)
    all_goals try (exfalso; omega)
    (refine QB (rs := [.tmp 4]) [] 1 ?_; (repeat (first | exact qh | refine jU ?_ | refine qO ?_ ?_)); all_goals trace_state)
  · rw [h1] at hidx
    have hk1 : jV p (t.take (k + 1)) = t.take k := by
      rw [Qw hk, if_pos h3]
      exact List.filter_eq_self.2 fun x hx => by rw [h2 x hx]; rfl
    repeat' (first | refine qe ?_ | (first | (apply qj; apply yi ([0]); exact jJ Tryz.func198 rfl rfl; exact hidx; (case hz => (exact ql (yf rfl (by simp) (ju fun _ => rfl)) (ql (xr hcap) qT))); (case hfl => rfl); (case hN => exact nle rfl))) | ((first | refine qb ?_ ?_ | refine qc ?_ ?_ | refine xsC ?_ ?_); all_goals (intro hc; have hp := hc; try simp at hp; try (exfalso; omega))) | refine qv ?_ ?_)
    all_goals try (exfalso; omega)
    (refine Awp.red (jt (τ := ⟨[(0, .os 0 0 t.length), (1, .clo (.func g) [] cap), (5, .v (.int .i64 (k : Int))), (6, .v (.int .i64 ((k : Int) + 1)))], [(0, .own false 4 (t.map Ent.row))], 1⟩) [] rfl ?gts ?ghs) ?gmain; (case gts => (repeat (first | exact qd | refine qi ?_ | refine x8 ?_ | refine vo ?_ | refine qL ?_ ?_))); (case ghs => (repeat (first | exact qh | refine jU ?_ | refine qO ?_ ?_))))
    refine qr (C := C1) (fun n σ => ∃ (j : Nat) (E : List Ent), k + 1 ≤ j ∧ j ≤ t.length ∧ n = t.length - j ∧ E.length = t.length ∧ E.take (jV p (t.take j)).length = jV p (t.take j) ∧ E.drop j = t.drop j ∧ σ = ⟨[(0, .os 0 0 t.length), (1, .clo (.func g) [] cap), (5, .v (.int .i64 ((jV p (t.take j)).length : Int))), (6, .v (.int .i64 (j : Int)))], [(0, .own false 4 (E.map Ent.row))], 1⟩) (t.length - (k + 1)) ⟨k + 1, t, Nat.le_refl _, hk, rfl, rfl, (by rw [hk1]; simp), rfl, ?_⟩ ?_
    · have htl : (t.take k).length = k := by simp; omega
      rw [hk1, htl]; rfl
    rintro n σ ⟨j, E, hkj, hj, rfl, hEl, hEt, hEd, rfl⟩
    have hil := XE p t j hj
    by_cases hlt : j < t.length
    · have hej : E[j]'(by omega) = t[j] := by
        have h := congrArg (fun l => l[0]?) hEd
        simp only [List.getElem?_drop, Nat.add_zero] at h
        rw [List.getElem?_eq_getElem (by omega), List.getElem?_eq_getElem hlt] at h
        exact Option.some.inj h
      have hr := qx (f := Ent.row) (l := E) (i := j) (by omega)
      rw [hej] at hr
      have hci := hcf t[j] (List.getElem_mem _)
      have hks := @Qw p t j hlt
      have hEd2 : E.drop (j + 1) = t.drop (j + 1) := by rw [← List.drop_drop, hEd, List.drop_drop]
      have hml : (E.map Ent.row).length = E.length := List.length_map ..
      have hrw : ∀ i : Nat, i < E.length → (E.map Ent.row)[i]? = some (E[i]?.getD t[j]).row := fun i hi => by
        rw [List.getElem?_map, List.getElem?_eq_getElem hi]; rfl
      have hri := hrw (jV p (t.take j)).length (by omega)
      generalize hI : (jV p (t.take j)).length = i at *
      generalize p t[j] = P at *
      cases P with
      | true =>
        rw [if_pos rfl] at hks
        repeat' (first | refine qe ?_ | (first | (refine vz ?_) | (apply qj; apply zK []; rfl; exact hg; exact hci; (case hz => exact ql (qM rfl) (kj hcap)); (case hfl => rfl); (case hN => exact nle rfl))) | ((first | refine qb ?_ ?_ | refine qc ?_ ?_ | refine xsC ?_ ?_); all_goals (intro hc; have hp := hc; try simp at hp; try (exfalso; omega))) | refine qv ?_ ?_)
        all_goals try (exfalso; omega)
        refine ⟨t.length - (j + 1), _, by omega, jt (τ := ⟨[(0, .os 0 0 t.length), (1, .clo (.func g) [] cap), (5, .v (.int .i64 ((jV p (t.take (j + 1))).length : Int))), (6, .v (.int .i64 ((j + 1 : Nat) : Int)))], [(0, .own false 4 (List.map Ent.row E))], 1⟩) [] rfl ?gts ?ghs, j + 1, E, by omega, by omega, rfl, hEl, (by rw [hks, hI]; exact hEt), hEd2, rfl⟩; (case gts => (repeat (first | exact qd | refine qi ?_ | refine x8 ?_ | refine vo ?_ | refine qL ?_ ?_)); all_goals (rw [hks, hI])); (case ghs => (repeat (first | exact qh | refine jU ?_ | refine qO ?_ ?_)); all_goals skip)
      | false =>
        rw [if_neg (by decide)] at hks
        have hlen1 : (jV p (t.take (j + 1))).length = i + 1 := by rw [hks, List.length_append, hI]; rfl
        have hset : (E.set i t[j]).take (i + 1) = jV p (t.take (j + 1)) := by
          rw [hks, List.take_set, ← hEt, List.take_succ_eq_append_getElem (by omega)]
          rw [List.set_append_right _ _ (by simp; omega)]
          simp [show i - min i E.length = 0 from by omega]
        have hdr : (E.set i t[j]).drop (j + 1) = t.drop (j + 1) := by rw [List.drop_set_of_lt (by omega)]; exact hEd2
        repeat' (first | refine qe ?_ | (first | (refine vz ?_) | (apply qj; apply zK []; rfl; exact hg; exact hci; (case hz => exact ql (qM rfl) (kj hcap)); (case hfl => rfl); (case hN => exact nle rfl))) | ((first | refine qb ?_ ?_ | refine qc ?_ ?_ | refine xsC ?_ ?_); all_goals (intro hc; have hp := hc; try simp at hp; try (exfalso; omega))) | refine qv ?_ ?_)
        all_goals try (exfalso; omega)
        refine ⟨t.length - (j + 1), _, by omega, jt (τ := ⟨[(0, .os 0 0 t.length), (1, .clo (.func g) [] cap), (5, .v (.int .i64 ((jV p (t.take (j + 1))).length : Int))), (6, .v (.int .i64 ((j + 1 : Nat) : Int)))], [(0, .own false 4 (List.map Ent.row (E.set i t[j])))], 1⟩) [] rfl ?gts ?ghs, j + 1, (E.set i t[j]), by omega, by omega, rfl, (by rw [List.length_set]; exact hEl), (by rw [hlen1]; exact hset), hdr, rfl⟩; (case gts => (repeat (first | exact qd | refine qi ?_ | refine x8 ?_ | refine vo ?_ | refine qL ?_ ?_)); all_goals (rw [hlen1])); (case ghs => (repeat (first | exact qh | refine jU ?_ | refine qO ?_ ?_)); all_goals (rw [List.map_set]; rfl))
    obtain rfl : j = t.length := by omega
    rw [List.take_length] at *
    repeat' (first | refine qe ?_ | (first | (refine Ji ?_) | (refine qcx ?_)) | ((first | refine qb ?_ ?_ | refine qc ?_ ?_ | refine xsC ?_ ?_); all_goals (intro hc; have hp := hc; try simp at hp; try (exfalso; omega))) | refine qv ?_ ?_)
    all_goals try (exfalso; omega)
    apply qc0 (C := C1) 0 (jV p t).length
    case hn => rfl
    case hr =>
      refine Eq.trans (b := (jV p t).map Ent.row) ?_ rfl
      rw [List.append_assoc, List.take_append_of_le_length (by simp; omega), Nat.zero_add, List.take_take, Nat.min_self, ← List.map_take, hEt]
    (apply jl (rs := [.tmp 4]) [] 1; (case hr => (repeat (first | exact qQ | (apply qR; rfl) | (apply qF; rfl; rfl; rfl; rfl; rfl)))); (case hL => rfl); (case hh => (repeat (first | exact qh | refine jU ?_ | refine qO ?_ ?_)); all_goals trace_state); (case hi => first | exact (rfl : _ = ([] : List (Nat × Nat))) | exact (rfl : _ = [((0 : Nat), (0 : Nat))]) | exact (rfl : _ = [((0 : Nat), (0 : Nat)), (1, 1)])); (case hz => first | rfl | (simp [jB, AV.ren, AV.ren.renL, qW, qq, qS]; done) | (simp [jB, AV.ren, AV.ren.renL, qW, qq, qS, *]; done) | (simp [jB, AV.ren, AV.ren.renL, qW, qq, qS]; omega)))
def zx (p : qC) (x : Ent) : Bool := inB x.path p
theorem qce (x : Ent) (p : qC) (hp : p.length ≤ 140737488355328) : jT C.P 201 [.agg x.row, .fp [[.v (str p)]] 0 0] (.v (.bool (zx p x))) := by
  have hin := qdU x.path p hp
  refine qa Tryz.func201 rfl _ Tryz.ntmps201 (Nat.le_of_ble_eq_true rfl) _ Tryz.results201 0 rfl rfl ?_
  repeat' (first | refine qe ?_ | (first | refine xsF Tryz.func186 (hin ..) ?_) | ((first | refine xsC ?_ ?_); all_goals (intro hc; have hp := hc; try simp at hp; try (exfalso; omega))) | refine qv ?_ ?_)
  all_goals (apply qU; rfl; rfl)
theorem Kl (t : List Ent) (p : qC) (hl : t.length ≤ 1000000) (hpl : p.length ≤ 140737488355328) :
    qm C1.P 190 [.os 0 0 t.length, .v (str p)] [.own false 4 (t.map Ent.row)] (.os 0 0 (jV (zx p) t).length) [.own false 4 ((jV (zx p) t).map Ent.row)] := by
  have hdel := Wk (zx p) 201 (jJ Tryz.func201 rfl rfl) [.fp [[.v (str p)]] 0 0] rfl t hl (fun x _ => qce x p hpl)
  refine qa (C := C1) Tryz.func190 rfl _ Tryz.ntmps190 (Nat.le_of_ble_eq_true rfl) _ Tryz.results190 1 rfl rfl ?_
  (repeat apply jP); apply jd; (repeat' (first | apply jz | refine vD ?_ | refine vB ?_ | refine vE ?_ | refine zJ ?_ | refine vC ?_ | refine kv ?_ | refine zj ?_ | refine kz ?_ | refine qhe ?_ | refine wc ?_ | refine wX ?_ | refine qht ?_ | refine QY ?_ | refine YZ ?_ | refine QK ?_ | refine ko ?_ | refine vF ?_ | refine vc ?_ | (first | fail) | refine yY ?_ | refine xi ?_ | refine xj ?_ | refine yE ?_ | refine yD ?_ | refine vn ?_ | refine vu ?_ | refine xh ?_ | refine xn ?_ | ((first | refine qb ?_ ?_ | refine qc ?_ ?_); all_goals (intro hc; have hp := hc; try simp at hp; try (exfalso; omega))))); show Awp _ _ _ _ _
  refine zD 3 1 ?_
  repeat' (first | refine qe ?_ | (first | (apply qH Tryz.func200 rfl rfl; intro hIsFn; refine wI ([0]) 0 hIsFn (hdel ..) ?_)) | ((first | refine qb ?_ ?_ | refine qc ?_ ?_ | refine xsC ?_ ?_); all_goals (intro hc; have hp := hc; try simp at hp; try (exfalso; omega))) | refine qv ?_ ?_)
  all_goals try (exfalso; omega)
  (apply jl (rs := [.tmp 4]) [] 1; (case hr => (repeat (first | exact qQ | (apply qR; rfl) | (apply qF; rfl; rfl; rfl; rfl; rfl)))); (case hL => rfl); (case hh => (repeat (first | exact qh | refine jU ?_ | refine qO ?_ ?_)); all_goals trace_state); (case hi => first | exact (rfl : _ = ([] : List (Nat × Nat))) | exact (rfl : _ = [((0 : Nat), (0 : Nat))]) | exact (rfl : _ = [((0 : Nat), (0 : Nat)), (1, 1)])); (case hz => first | rfl | (simp [jB, AV.ren, AV.ren.renL, qW, qq, qS]; done) | (simp [jB, AV.ren, AV.ren.renL, qW, qq, qS, *]; done) | (simp [jB, AV.ren, AV.ren.renL, qW, qq, qS]; omega)))
end Go.Proofs.YtiljlcgmcmjcoaaGreatDoor
set_option linter.unusedSimpArgs false
set_option linter.unnecessarySimpa false
set_option linter.unusedVariables false
set_option maxHeartbeats 1000000
namespace Go.Proofs.YtiljlcgmcmjcoaaGreatDoor
open Go.Ab Go.RowKit
set_option maxRecDepth 10000
attribute [local irreducible] Awp jZ jg qJ Red qz Go.Ab.Fin qm Rz y0 qB qG ResOk jG q9 jK qV
def yL (c : Chg) (v : Int) (x : Ent) : Ent := ⟨c.to ++ x.path.drop c.path.length, x.fold, x.text, if x.path = c.path then v else x.ver⟩
def jv (t : List Ent) (c : Chg) (v : Int) : List Ent := (t.filter (zx c.path)).map (yL c v)
def jq (t : List Ent) (c : Chg) (v : Int) : List Ent :=
  if c.kind = 1 then yO t ⟨c.path, true, [], v⟩
  else if c.kind = 2 then yO t ⟨c.path, false, c.text, v⟩
  else if c.kind = 4 then jV (zx c.path) t
  else (jv t c v).foldl yO (jV (zx c.path) t)
def yH (t : List Ent) (c : Chg) : Bool := decide (c.kind = 3) && (t.filter (zx c.path)).any fun x => yn (c.to ++ x.path.drop c.path.length)
def yd (t : List Ent) (c : Chg) (v : Int) : Int := if yH t c = true then 2 else if 60 < (jq t c v).length then 2 else 0
def ZY (e : Int) (n : Nat) : AV := if e = 0 then .tup [.os 1 0 n, .v (.int .i64 0)] else .tup [.sl true [], .v (.int .i64 e)]
theorem qgG (t : List Ent) (c : Chg) (v : Int) (hl : t.length ≤ 1000000) (hs : qt ya t = true) (hk : c.kind = 1) (hlen : (jq t c v).length ≤ 1000001) :
    qm C1.P 175 [.os 0 0 t.length, .agg c.row, .v (.int .i64 v)] [.own false 4 (t.map Ent.row)] (ZY (yd t c v) (jq t c v).length) [.dead, .own false 4 ((jq t c v).map Ent.row)] := by
  have hput : qm C1.P 189 [.os 0 0 t.length, .agg [.v (str c.path), .v (.bool true), .v (str []), .v (.int .i64 v)]] [.own false 4 (t.map Ent.row)] _ _ := qfS t ⟨c.path, true, [], v⟩ hl hs
  have hD : jq t c v = yO t ⟨c.path, true, [], v⟩ := by simp [jq, hk]
  have hE : yd t c v = if 60 < (jq t c v).length then 2 else 0 := by simp [yd, yH, hk]
  rw [← hD] at hput
  generalize yd t c v = E at *
  generalize jq t c v = L at *
  by_cases h60 : 60 < L.length
  · rw [if_pos h60] at hE
    subst hE
    refine qa (C := C1) Tryz.func175 rfl _ Tryz.ntmps175 (Nat.le_of_ble_eq_true rfl) _ Tryz.results175 1 rfl rfl ?_
    repeat' (first | refine qe ?_ | (first | (apply qH Tryz.func189 rfl rfl; intro hIsFn; refine v7 ([0]) 0 hIsFn (hput ..) ?_)) | ((first | refine qb ?_ ?_ | refine qc ?_ ?_ | refine xsC ?_ ?_); all_goals (intro hc; have hp := hc; try simp at hp; try (exfalso; omega))) | refine qv ?_ ?_)
    all_goals try (exfalso; omega)
    (refine QB (rs := [.tmp 6, .tmp 7]) [(2, 1)] 2 ?_; (apply j6 0; exact jm rfl; (repeat (first | exact qh | refine jU ?_ | refine qO ?_ ?_))); all_goals trace_state)
  · rw [if_neg h60] at hE
    subst hE
    refine qa (C := C1) Tryz.func175 rfl _ Tryz.ntmps175 (Nat.le_of_ble_eq_true rfl) _ Tryz.results175 1 rfl rfl ?_
    repeat' (first | refine qe ?_ | (first | (apply qH Tryz.func189 rfl rfl; intro hIsFn; refine v7 ([0]) 0 hIsFn (hput ..) ?_)) | ((first | refine qb ?_ ?_ | refine qc ?_ ?_ | refine xsC ?_ ?_); all_goals (intro hc; have hp := hc; try simp at hp; try (exfalso; omega))) | refine qv ?_ ?_)
    all_goals try (exfalso; omega)
    (refine QB (rs := [.tmp 6, .tmp 7]) [(2, 1)] 2 ?_; (apply j6 0; exact jm rfl; (repeat (first | exact qh | refine jU ?_ | refine qO ?_ ?_))); all_goals trace_state)
theorem qf8 (t : List Ent) (c : Chg) (v : Int) (hl : t.length ≤ 1000000) (hs : qt ya t = true) (hk : c.kind = 2) (hlen : (jq t c v).length ≤ 1000001) :
    qm C1.P 175 [.os 0 0 t.length, .agg c.row, .v (.int .i64 v)] [.own false 4 (t.map Ent.row)] (ZY (yd t c v) (jq t c v).length) [.dead, .own false 4 ((jq t c v).map Ent.row)] := by
  have hput : qm C1.P 189 [.os 0 0 t.length, .agg [.v (str c.path), .v (.bool false), .v (str c.text), .v (.int .i64 v)]] [.own false 4 (t.map Ent.row)] _ _ := qfS t ⟨c.path, false, c.text, v⟩ hl hs
  have hD : jq t c v = yO t ⟨c.path, false, c.text, v⟩ := by simp [jq, hk]
  have hE : yd t c v = if 60 < (jq t c v).length then 2 else 0 := by simp [yd, yH, hk]
  rw [← hD] at hput
  generalize yd t c v = E at *
  generalize jq t c v = L at *
  by_cases h60 : 60 < L.length
  · rw [if_pos h60] at hE
    subst hE
    refine qa (C := C1) Tryz.func175 rfl _ Tryz.ntmps175 (Nat.le_of_ble_eq_true rfl) _ Tryz.results175 1 rfl rfl ?_
    repeat' (first | refine qe ?_ | (first | (apply qH Tryz.func189 rfl rfl; intro hIsFn; refine v7 ([0]) 0 hIsFn (hput ..) ?_)) | ((first | refine qb ?_ ?_ | refine qc ?_ ?_ | refine xsC ?_ ?_); all_goals (intro hc; have hp := hc; try simp at hp; try (exfalso; omega))) | refine qv ?_ ?_)
    all_goals try (exfalso; omega)
    (refine QB (rs := [.tmp 6, .tmp 7]) [(2, 1)] 2 ?_; (apply j6 0; exact jm rfl; (repeat (first | exact qh | refine jU ?_ | refine qO ?_ ?_))); all_goals trace_state)
  · rw [if_neg h60] at hE
    subst hE
    refine qa (C := C1) Tryz.func175 rfl _ Tryz.ntmps175 (Nat.le_of_ble_eq_true rfl) _ Tryz.results175 1 rfl rfl ?_
    repeat' (first | refine qe ?_ | (first | (apply qH Tryz.func189 rfl rfl; intro hIsFn; refine v7 ([0]) 0 hIsFn (hput ..) ?_)) | ((first | refine qb ?_ ?_ | refine qc ?_ ?_ | refine xsC ?_ ?_); all_goals (intro hc; have hp := hc; try simp at hp; try (exfalso; omega))) | refine qv ?_ ?_)
    all_goals try (exfalso; omega)
    (refine QB (rs := [.tmp 6, .tmp 7]) [(2, 1)] 2 ?_; (apply j6 0; exact jm rfl; (repeat (first | exact qh | refine jU ?_ | refine qO ?_ ?_))); all_goals trace_state)
theorem qf5 (t : List Ent) (c : Chg) (v : Int) (hl : t.length ≤ 1000000) (hk : c.kind = 4) (hpl : c.path.length ≤ 140737488355328) :
    qm C1.P 175 [.os 0 0 t.length, .agg c.row, .v (.int .i64 v)] [.own false 4 (t.map Ent.row)] (ZY (yd t c v) (jq t c v).length) [.dead, .own false 4 ((jq t c v).map Ent.row)] := by
  have hwo := Kl t c.path hl hpl
  have hD : jq t c v = jV (zx c.path) t := by simp [jq, hk]
  have hE : yd t c v = if 60 < (jq t c v).length then 2 else 0 := by simp [yd, yH, hk]
  have hlen : (jq t c v).length ≤ t.length := by rw [hD]; exact List.length_filter_le ..
  rw [← hD] at hwo
  generalize yd t c v = E at *
  generalize jq t c v = L at *
  by_cases h60 : 60 < L.length
  · rw [if_pos h60] at hE
    subst hE
    refine qa (C := C1) Tryz.func175 rfl _ Tryz.ntmps175 (Nat.le_of_ble_eq_true rfl) _ Tryz.results175 1 rfl rfl ?_
    repeat' (first | refine qe ?_ | (first | (apply qH Tryz.func190 rfl rfl; intro hIsFn; refine wI ([0]) 0 hIsFn (hwo ..) ?_)) | ((first | refine qb ?_ ?_ | refine qc ?_ ?_ | refine xsC ?_ ?_); all_goals (intro hc; have hp := hc; try simp at hp; try (exfalso; omega))) | refine qv ?_ ?_)
    all_goals try (exfalso; omega)
    apply w6 (C := C1) 0 0 L.length
    case hi => rfl
    case hn => rfl
    case hr => exact (List.take_of_length_le (by simp))
    case hnn => exact Nat.ne_of_beq_eq_false rfl
    case hnx => exact Nat.le_of_ble_eq_true rfl
    (refine QB (rs := [.tmp 6, .tmp 7]) [(2, 1)] 2 ?_; (apply j6 0; exact jm rfl; (repeat (first | exact qh | refine jU ?_ | refine qO ?_ ?_))); all_goals trace_state)
  · rw [if_neg h60] at hE
    subst hE
    refine qa (C := C1) Tryz.func175 rfl _ Tryz.ntmps175 (Nat.le_of_ble_eq_true rfl) _ Tryz.results175 1 rfl rfl ?_
    repeat' (first | refine qe ?_ | (first | (apply qH Tryz.func190 rfl rfl; intro hIsFn; refine wI ([0]) 0 hIsFn (hwo ..) ?_)) | ((first | refine qb ?_ ?_ | refine qc ?_ ?_ | refine xsC ?_ ?_); all_goals (intro hc; have hp := hc; try simp at hp; try (exfalso; omega))) | refine qv ?_ ?_)
    all_goals try (exfalso; omega)
    apply w6 (C := C1) 6 0 L.length
    case hi => rfl
    case hn => rfl
    case hr => exact (List.take_of_length_le (by simp))
    case hnn => exact Nat.ne_of_beq_eq_false rfl
    case hnx => exact Nat.le_of_ble_eq_true rfl
    (refine QB (rs := [.tmp 6, .tmp 7]) [(2, 1)] 2 ?_; (apply j6 0; exact jm rfl; (repeat (first | exact qh | refine jU ?_ | refine qO ?_ ?_))); all_goals trace_state)
end Go.Proofs.YtiljlcgmcmjcoaaGreatDoor
set_option linter.unusedSimpArgs false
set_option linter.unnecessarySimpa false
set_option linter.unusedVariables false
namespace Go.Proofs.YtiljlcgmcmjcoaaGreatDoor
open Go.Op
theorem qgl {a b : qC} (h : bytesLess a b = true) : bytesLess b a = false := by
  cases e : bytesLess b a
  · rfl
  · have := xZ h e
    rw [xH] at this; cases this
theorem Vx {a b : qC} (h : bytesLess a b = true) : ¬ a = b := fun e => by rw [e, xH] at h; cases h
theorem qhy {a b : qC} (h1 : bytesLess a b = false) (h2 : ¬ a = b) : bytesLess b a = true := by
  rcases wg a b with ⟨h, _, _⟩ | ⟨h, _, _⟩ | ⟨h, _, _⟩
  · rw [h] at h1; cases h1
  · exact absurd h h2
  · exact h
theorem KB (p : qC) : ∀ {t : List Ent}, t.Pairwise (fun a b => bytesLess a.path b.path = true) → ∃ A M Z, t = A ++ (M ++ Z) ∧ xe t p = A.length ∧ (∀ a, a ∈ A → bytesLess a.path p = true) ∧ (∀ z, z ∈ Z → bytesLess p z.path = true) ∧
    ((yB t p = true ∧ ∃ x, M = [x] ∧ x.path = p) ∨ (yB t p = false ∧ M = []))
  | [], _ => ⟨[], [], [], rfl, rfl, nofun, nofun, .inr ⟨rfl, rfl⟩⟩
  | x :: l, h => by
    obtain ⟨h1, h2⟩ := List.pairwise_cons.1 h
    by_cases hx : bytesLess x.path p = true
    · obtain ⟨A, M, Z, rfl, hp, hA, hZ, hM⟩ := KB p h2
      have hp' : xe (x :: (A ++ (M ++ Z))) p = A.length + 1 := by
        simp only [xe, List.takeWhile_cons, hx, if_true, List.length_cons] at hp ⊢; omega
      have hh : yB (x :: (A ++ (M ++ Z))) p = yB (A ++ (M ++ Z)) p := by
        simp [yB, atP, Vx hx]
      refine ⟨x :: A, M, Z, rfl, hp', fun a ha => ?_, hZ, by rw [hh]; exact hM⟩
      rcases List.mem_cons.1 ha with rfl | ha
      · exact hx
      · exact hA a ha
    · have hx : bytesLess x.path p = false := by simpa using hx
      have hp : xe (x :: l) p = 0 := by simp [xe, List.takeWhile_cons, hx]
      by_cases e : x.path = p
      · subst e
        exact ⟨[], [x], l, rfl, hp, nofun, fun z hz => h1 z hz, .inl ⟨by simp [yB, atP], x, rfl, rfl⟩⟩
      · have hg := qhy hx e
        have hall : ∀ z, z ∈ x :: l → bytesLess p z.path = true := fun z hz => by
          rcases List.mem_cons.1 hz with rfl | hz
          · exact hg
          · exact xZ hg (h1 z hz)
        refine ⟨[], [], x :: l, rfl, hp, nofun, hall, .inr ⟨List.any_eq_false.2 fun z hz => ?_, rfl⟩⟩
        have := Vx (hall z hz)
        simp only [atP, decide_eq_true_eq]
        exact fun e => this e.symm
theorem JQ {t A M Z : List Ent} {x : Ent} (h : t = A ++ (M ++ Z)) (hp : xe t x.path = A.length) (hM : (yB t x.path = true ∧ ∃ y, M = [y] ∧ y.path = x.path) ∨ (yB t x.path = false ∧ M = [])) : yO t x = A ++ ([x] ++ Z) := by
  unfold yO
  rw [hp]
  have h1 : t.take A.length = A := by rw [h]; simp
  rw [h1]
  rcases hM with ⟨hh, y, rfl, _⟩ | ⟨hh, rfl⟩
  · simp only [hh, if_true]; rw [h]; simp
  · simp only [hh, Bool.false_eq_true, if_false]; rw [h]; simp
theorem qaD (t : List Ent) (x : Ent) : (yO t x).length ≤ t.length + 1 := by
  unfold yO; split <;> simp <;> omega
theorem kh {t : List Ent} {x : Ent} (hs : qt ya t = true) : qt ya (yO t x) = true := by
  have hl := vi.1 hs
  obtain ⟨A, M, Z, h, hp, hA, hZ, hM⟩ := KB x.path hl
  rw [JQ h hp hM]
  refine vi.2 ?_
  have hsub : (A ++ Z).Sublist t := by
    rw [h]; exact List.Sublist.append_left (List.sublist_append_right _ _) _
  obtain ⟨pA, pZ, pAZ⟩ := List.pairwise_append.1 (hl.sublist hsub)
  refine List.pairwise_append.2 ⟨pA, List.pairwise_cons.2 ⟨fun z hz => hZ z hz, pZ⟩, fun a ha b hb => ?_⟩
  rcases List.mem_cons.1 hb with rfl | hb
  · exact hA a ha
  · exact pAZ a ha b hb
theorem zM {p : Ent → Bool} {t : List Ent} (hs : qt ya t = true) : qt ya (jV p t) = true := vi.2 ((vi.1 hs).sublist List.filter_sublist)
theorem kc : ∀ {l t : List Ent}, qt ya t = true → qt ya (l.foldl yO t) = true
  | [], _, h => h
  | x :: l, t, h => kc (l := l) (kh h)
theorem Qr : ∀ (l t : List Ent), (l.foldl yO t).length ≤ t.length + l.length
  | [], _ => by simp
  | x :: l, t => by
    have h1 := Qr l (yO t x)
    have h2 := qaD t x
    simp only [List.foldl_cons, List.length_cons]; omega
theorem qay {l t : List Ent} {i : Nat} (h : i < l.length) : (l.take (i + 1)).foldl yO t = yO ((l.take i).foldl yO t) l[i] := by
  rw [List.take_succ_eq_append_getElem h, List.foldl_append]; rfl
theorem jp {p : qC} (h : qD p = 0) : p.length ≤ 80 := by
  have : yn p = false := by
    unfold qD at h
    split at h
    · split at h
      · exact absurd h (by decide)
      · rename_i h2; simpa using h2
    · exact absurd h (by decide)
  simp [yn] at this; omega
theorem QX {p f t : qC} (hp : qD p = 0) (hf : qD f = 0) (ht : qD t = 0) (hi : inB p f = true) : vr p f t = if yn (t ++ p.drop f.length) = true then 2 else 0 := by
  unfold vr
  rw [if_pos (by simp [yG, hp, hf, ht]), if_pos hi]
theorem Xv {t : List Ent} {c : Chg} {v : Int} {i : Nat} (h : i < t.length) : jv (t.take (i + 1)) c v = if inB t[i].path c.path = true then jv (t.take i) c v ++ [yL c v t[i]] else jv (t.take i) c v := by
  unfold jv
  rw [List.take_succ_eq_append_getElem h, List.filter_append]
  cases hs : inB t[i].path c.path <;> simp [hs, zx]
end Go.Proofs.YtiljlcgmcmjcoaaGreatDoor
set_option linter.unusedSimpArgs false
set_option linter.unnecessarySimpa false
set_option linter.unusedVariables false
namespace Go.Proofs.YtiljlcgmcmjcoaaGreatDoor
open Go.Op
def xp (x : Ent) (s : List Ent × Bool) (y : Ent) : List Ent × Bool :=
  ((if s.2 = false ∧ bytesLess y.path x.path = false then s.1 ++ [x] else s.1) ++ (if y.path = x.path then [] else [y]), s.2 || !bytesLess y.path x.path)
def vA (t : List Ent) (x : Ent) : List Ent × Bool := t.foldl (xp x) ([], false)
def WI (t : List Ent) (x : Ent) : List Ent := if (vA t x).2 = true then (vA t x).1 else (vA t x).1 ++ [x]
theorem qdo {t : List Ent} {x : Ent} {i : Nat} (h : i < t.length) : vA (t.take (i + 1)) x = xp x (vA (t.take i) x) t[i] := by
  unfold vA
  rw [List.take_succ_eq_append_getElem h, List.foldl_append]; rfl
theorem qfR (t : List Ent) (x : Ent) : (vA t x).1.length ≤ 2 * t.length := by
  have : ∀ (l : List Ent) (s : List Ent × Bool), (l.foldl (xp x) s).1.length ≤ s.1.length + 2 * l.length := by
    intro l
    induction l with
    | nil => intro s; simp
    | cons y l ih =>
      intro s
      have h1 := ih (xp x s y)
      have hq : (xp x s y).1.length ≤ s.1.length + 2 := by
        unfold xp
        simp only [List.length_append]
        split <;> split <;> simp
      simp only [List.foldl_cons, List.length_cons]
      omega
  have := this t ([], false)
  simpa [vA] using this
theorem qa4 {x : Ent} : ∀ {A : List Ent} {s : List Ent}, (∀ a, a ∈ A → bytesLess a.path x.path = true) → A.foldl (xp x) (s, false) = (s ++ A, false)
  | [], s, _ => by simp
  | a :: A, s, h => by
    have ha := h a (by simp)
    have hs : xp x (s, false) a = (s ++ [a], false) := by
      simp [xp, ha, Vx ha]
    rw [List.foldl_cons, hs, qa4 fun y hy => h y (by simp [hy])]
    simp
theorem Y5 {x : Ent} : ∀ {Z : List Ent} {s : List Ent}, (∀ z, z ∈ Z → bytesLess x.path z.path = true) → Z.foldl (xp x) (s, true) = (s ++ Z, true)
  | [], s, _ => by simp
  | z :: Z, s, h => by
    have hz := h z (by simp)
    have hs : xp x (s, true) z = (s ++ [z], true) := by
      have : ¬ z.path = x.path := fun e => Vx hz e.symm
      simp [xp, this]
    rw [List.foldl_cons, hs, Y5 fun y hy => h y (by simp [hy])]
    simp
theorem Jw {t : List Ent} {x : Ent} (hs : qt ya t = true) : WI t x = yO t x := by
  obtain ⟨A, M, Z, h, hp, hA, hZ, hM⟩ := KB x.path (vi.1 hs)
  rw [JQ h hp hM]
  have h1 : vA t x = Z.foldl (xp x) (M.foldl (xp x) (A, false)) := by
    unfold vA
    rw [h, List.foldl_append, List.foldl_append, qa4 hA, List.nil_append]
  rcases hM with ⟨_, y, rfl, hy⟩ | ⟨_, rfl⟩
  · have h2 : xp x (A, false) y = (A ++ [x], true) := by simp [xp, hy, xH]
    rw [List.foldl_cons, List.foldl_nil, h2, Y5 hZ] at h1
    simp [WI, h1]
  · rw [List.foldl_nil] at h1
    cases Z with
    | nil => simp at h1; simp [WI, h1]
    | cons z Z =>
      have hz := hZ z (by simp)
      have h2 : xp x (A, false) z = (A ++ [x] ++ [z], true) := by
        have h3 : ¬ z.path = x.path := fun e => Vx hz e.symm
        simp [xp, qgl hz, h3]
      rw [List.foldl_cons, h2, Y5 fun y hy => hZ y (by simp [hy])] at h1
      simp [WI, h1]
end Go.Proofs.YtiljlcgmcmjcoaaGreatDoor
set_option linter.unusedSimpArgs false
set_option linter.unnecessarySimpa false
set_option linter.unusedVariables false
set_option maxHeartbeats 1000000
namespace Go.Proofs.YtiljlcgmcmjcoaaGreatDoor
open Go.Ab Go.RowKit
set_option maxRecDepth 10000
attribute [local irreducible] Awp jZ jg qJ Red qz Go.Ab.Fin qm Rz y0 qB qG ResOk jG q9 jK qV
def zN (t : List Ent) (c : Chg) (i : Nat) : Bool := ((t.take i).filter (zx c.path)).any fun x => yn (c.to ++ x.path.drop c.path.length)
theorem qaY {t : List Ent} {c : Chg} {i : Nat} (h : i < t.length) : zN t c (i + 1) = (zN t c i || (inB t[i].path c.path && yn (c.to ++ t[i].path.drop c.path.length))) := by
  unfold zN
  rw [List.take_succ_eq_append_getElem h, List.filter_append, List.any_append]
  cases hs : inB t[i].path c.path <;> simp [hs, zx]
theorem qa2 (t : List Ent) (c : Chg) (v : Int) (hl : t.length ≤ 1000000) (hk : c.kind = 3) (hgt : ∀ x, x ∈ t → qD x.path = 0) (hc1 : qD c.path = 0) (hc2 : qD c.to = 0) (hbad : yH t c = true) :
    qm C1.P 175 [.os 0 0 t.length, .agg c.row, .v (.int .i64 v)] [.own false 4 (t.map Ent.row)] (.tup [.sl true [], .v (.int .i64 2)]) [.own false 4 (t.map Ent.row)] := by
  have l1 := jp hc1
  have l2 := jp hc2
  have hml : (t.map Ent.row).length = t.length := List.length_map ..
  refine qa (C := C1) Tryz.func175 rfl _ Tryz.ntmps175 (Nat.le_of_ble_eq_true rfl) _ Tryz.results175 1 rfl rfl ?_
  repeat' (first | refine qe ?_ | fail | ((first | refine qb ?_ ?_ | refine qc ?_ ?_ | refine xsC ?_ ?_); all_goals (intro hc; have hp := hc; try simp at hp; try (exfalso; omega))) | refine qv ?_ ?_)
  all_goals try (exfalso; omega)
  refine Awp.red (C := C1) (vN 8 4 rfl (Nat.le_of_ble_eq_true rfl)) ?_
  (refine Awp.red (jt (τ := ⟨[(0, .os 0 0 t.length), (2, .v (.int .i64 v)), (4, .op 1 0 0), (8, .os 2 0 0), (43, .os 0 0 t.length), (44, .v (.int .i64 t.length)), (45, .v (.int .i64 ((0 : Nat) : Int)))], [(0, .own false 4 (t.map Ent.row)), (1, .own false 5 [c.row]), (2, .own false 4 [])], 3⟩) [(1, 1), (2, 2)] rfl ?gts ?ghs) ?gmain; (case gts => (repeat (first | exact qd | refine qi ?_ | refine x8 ?_ | refine vo ?_ | refine qL ?_ ?_))); (case ghs => (repeat (first | exact qh | refine jU ?_ | refine qO ?_ ?_))))
  refine qr (C := C1) (fun n σ => ∃ i : Nat, i ≤ t.length ∧ n = t.length - i ∧ zN t c i = false ∧ σ = ⟨[(0, .os 0 0 t.length), (2, .v (.int .i64 v)), (4, .op 1 0 0), (8, .os 2 0 (jv (t.take i) c v).length), (43, .os 0 0 t.length), (44, .v (.int .i64 t.length)), (45, .v (.int .i64 (i : Int)))], [(0, .own false 4 (t.map Ent.row)), (1, .own false 5 [c.row]), (2, .own false 4 ((jv (t.take i) c v).map Ent.row))], 3⟩) t.length ⟨0, Nat.zero_le _, rfl, rfl, rfl⟩ ?_
  rintro n σ ⟨i, hi, rfl, hsofar, rfl⟩
  have hgl : (jv (t.take i) c v).length ≤ i := by
    unfold jv
    rw [List.length_map]
    have h1 : ((t.take i).filter (zx c.path)).length ≤ (t.take i).length := List.length_filter_le ..
    simp at h1; omega
  by_cases hlt : i < t.length
  · have hr := qx (f := Ent.row) hlt
    have hpx := hgt t[i] (List.getElem_mem _)
    have lx := jp hpx
    have hin := qdU t[i].path c.path (by omega)
    have hgs := @Xv t c v i hlt
    have hmv := qc3 t[i].path c.path c.to (by omega) (by omega) (by omega)
    have hme := @QX t[i].path c.path c.to hpx hc1 hc2
    have hbs := @qaY t c i hlt
    rw [hsofar] at hbs
    have hmt : ∀ w, (if t[i].path = c.path then v else t[i].ver) = w → (yL c v t[i]).row = [.v (str (c.to ++ t[i].path.drop c.path.length)), .v (.bool t[i].fold), .v (str t[i].text), .v (.int .i64 w)] := fun w hw => by simp [yL, Ent.row, hw]
    generalize hG : jv (t.take i) c v = G at hgl hgs ⊢
    generalize inB t[i].path c.path = I at *
    cases I with
    | false =>
      rw [if_neg (by decide)] at hgs
      have hbs : zN t c (i + 1) = false := hbs
      repeat' (first | refine qe ?_ | (first | (refine vz ?_) | (refine j4 ?_) | (refine xK ?_) | refine xsF Tryz.func186 (hin ..) ?_ | refine xsQ Tryz.func191 (hmv ..) ?_) | ((first | refine qb ?_ ?_ | refine qc ?_ ?_ | refine xsC ?_ ?_); all_goals (intro hc; have hp := hc; try simp at hp; try (exfalso; omega))) | refine qv ?_ ?_)
      all_goals try (exfalso; omega)
      refine ⟨t.length - (i + 1), _, by omega, jt (τ := ⟨[(0, .os 0 0 t.length), (2, .v (.int .i64 v)), (4, .op 1 0 0), (8, .os 2 0 (jv (t.take (i + 1)) c v).length), (43, .os 0 0 t.length), (44, .v (.int .i64 t.length)), (45, .v (.int .i64 ((i + 1 : Nat) : Int)))], [(0, .own false 4 (t.map Ent.row)), (1, .own false 5 [c.row]), (2, .own false 4 ((jv (t.take (i + 1)) c v).map Ent.row))], 3⟩) [(1, 1), (2, 2)] rfl ?gts ?ghs, i + 1, by omega, rfl, (hbs), rfl⟩; (case gts => (repeat (first | exact qd | refine qi ?_ | refine x8 ?_ | refine vo ?_ | refine qL ?_ ?_)); all_goals (rw [hgs])); (case ghs => (repeat (first | exact qh | refine jU ?_ | refine qO ?_ ?_)); all_goals (rw [hgs]))
    | true =>
      have hme2 := hme rfl
      clear hme
      rw [if_pos rfl] at hgs
      have hlen1 : (jv (t.take (i + 1)) c v).length = G.length + 1 := by rw [hgs]; simp
      generalize c.to ++ t[i].path.drop c.path.length = Q at *
      generalize vr t[i].path c.path c.to = E at *
      cases hq : yn Q with
      | true =>
        rw [hq, if_pos rfl] at hme2
        subst hme2
        repeat' (first | refine qe ?_ | (first | (refine vz ?_) | (refine j4 ?_) | (refine xK ?_) | refine xsF Tryz.func186 (hin ..) ?_ | refine xsQ Tryz.func191 (hmv ..) ?_) | ((first | refine qb ?_ ?_ | refine qc ?_ ?_ | refine xsC ?_ ?_); all_goals (intro hc; have hp := hc; try simp at hp; try (exfalso; omega))) | refine qv ?_ ?_)
        all_goals try (exfalso; omega)
        all_goals ((refine QB (rs := [.tmp 6, .tmp 7]) [] 1 ?_; (repeat (first | exact qh | refine jU ?_ | refine qO ?_ ?_)); all_goals trace_state))
      | false =>
        rw [hq, if_neg (by decide)] at hme2
        subst hme2
        rw [hq] at hbs
        have hbs : zN t c (i + 1) = false := hbs
        repeat' (first | refine qe ?_ | (first | (refine vz ?_) | (refine j4 ?_) | (refine xK ?_) | refine xsF Tryz.func186 (hin ..) ?_ | refine xsQ Tryz.func191 (hmv ..) ?_) | ((first | refine qb ?_ ?_ | refine qc ?_ ?_ | refine xsC ?_ ?_); all_goals (intro hc; have hp := hc; try simp at hp; try (exfalso; omega))) | refine qv ?_ ?_)
        all_goals try (exfalso; omega)
        · have hrow := hmt v (if_pos (by assumption))
          clear hmt hin hmv hgt hpx lx hr hq hbad
          refine ⟨t.length - (i + 1), _, by omega, jt (τ := ⟨[(0, .os 0 0 t.length), (2, .v (.int .i64 v)), (4, .op 1 0 0), (8, .os 2 0 (jv (t.take (i + 1)) c v).length), (43, .os 0 0 t.length), (44, .v (.int .i64 t.length)), (45, .v (.int .i64 ((i + 1 : Nat) : Int)))], [(0, .own false 4 (t.map Ent.row)), (1, .own false 5 [c.row]), (2, .own false 4 ((jv (t.take (i + 1)) c v).map Ent.row))], 3⟩) [(1, 1), (4, 2)] rfl ?gts ?ghs, i + 1, by omega, rfl, (hbs), rfl⟩; (case gts => (repeat (first | exact qd | refine qi ?_ | refine x8 ?_ | refine vo ?_ | refine qL ?_ ?_)); all_goals (first | (rw [hlen1]; done) | (rw [hgs, List.map_append, List.take_of_length_le (by simp)]; show _ = _ ++ [(yL c v t[i]).row]; rw [hrow]; rfl))); (case ghs => (repeat (first | exact qh | refine jU ?_ | refine qO ?_ ?_)); all_goals (first | (rw [hlen1]; done) | (rw [hgs, List.map_append, List.take_of_length_le (by simp)]; show _ = _ ++ [(yL c v t[i]).row]; rw [hrow]; rfl)))
        · have hrow := hmt t[i].ver (if_neg (by assumption))
          clear hmt hin hmv hgt hpx lx hr hq hbad
          refine ⟨t.length - (i + 1), _, by omega, jt (τ := ⟨[(0, .os 0 0 t.length), (2, .v (.int .i64 v)), (4, .op 1 0 0), (8, .os 2 0 (jv (t.take (i + 1)) c v).length), (43, .os 0 0 t.length), (44, .v (.int .i64 t.length)), (45, .v (.int .i64 ((i + 1 : Nat) : Int)))], [(0, .own false 4 (t.map Ent.row)), (1, .own false 5 [c.row]), (2, .own false 4 ((jv (t.take (i + 1)) c v).map Ent.row))], 3⟩) [(1, 1), (4, 2)] rfl ?gts ?ghs, i + 1, by omega, rfl, (hbs), rfl⟩; (case gts => (repeat (first | exact qd | refine qi ?_ | refine x8 ?_ | refine vo ?_ | refine qL ?_ ?_)); all_goals (first | (rw [hlen1]; done) | (rw [hgs, List.map_append, List.take_of_length_le (by simp)]; show _ = _ ++ [(yL c v t[i]).row]; rw [hrow]; rfl))); (case ghs => (repeat (first | exact qh | refine jU ?_ | refine qO ?_ ?_)); all_goals (first | (rw [hlen1]; done) | (rw [hgs, List.map_append, List.take_of_length_le (by simp)]; show _ = _ ++ [(yL c v t[i]).row]; rw [hrow]; rfl)))
  · obtain rfl : i = t.length := by omega
    unfold zN at hsofar
    rw [List.take_length] at hsofar
    simp only [yH, hk, hsofar] at hbad
    simp at hbad
theorem qbk (t : List Ent) (c : Chg) (v : Int) (hl : t.length ≤ 400000) (hk : c.kind = 3) (hgt : ∀ x, x ∈ t → qD x.path = 0) (hc1 : qD c.path = 0) (hc2 : qD c.to = 0) (hbad : yH t c = false) (hs : qt ya t = true) :
    qm C1.P 175 [.os 0 0 t.length, .agg c.row, .v (.int .i64 v)] [.own false 4 (t.map Ent.row)] (ZY (yd t c v) (jq t c v).length) [.dead, .own false 4 ((jq t c v).map Ent.row)] := by
  have l1 := jp hc1
  have l2 := jp hc2
  have hnb : ∀ x, x ∈ t → inB x.path c.path = true → yn (c.to ++ x.path.drop c.path.length) = false := fun x hx hi => by
    simp only [yH, hk, decide_true, Bool.true_and, List.any_eq_false] at hbad
    simpa using hbad x (List.mem_filter.2 ⟨hx, hi⟩)
  have hwo := Kl t c.path (by omega) (by omega)
  have hD : jq t c v = (jv t c v).foldl yO (jV (zx c.path) t) := by simp [jq, hk]
  have hE : yd t c v = if 60 < (jq t c v).length then 2 else 0 := by simp [yd, hbad]
  have hkl : (jV (zx c.path) t).length ≤ t.length := List.length_filter_le ..
  have hkr := zM (p := zx c.path) hs
  have hml : (t.map Ent.row).length = t.length := List.length_map ..
  refine qa (C := C1) Tryz.func175 rfl _ Tryz.ntmps175 (Nat.le_of_ble_eq_true rfl) _ Tryz.results175 1 rfl rfl ?_
  repeat' (first | refine qe ?_ | fail | ((first | refine qb ?_ ?_ | refine qc ?_ ?_ | refine xsC ?_ ?_); all_goals (intro hc; have hp := hc; try simp at hp; try (exfalso; omega))) | refine qv ?_ ?_)
  all_goals try (exfalso; omega)
  refine Awp.red (C := C1) (vN 8 4 rfl (Nat.le_of_ble_eq_true rfl)) ?_
  (refine Awp.red (jt (τ := ⟨[(0, .os 0 0 t.length), (2, .v (.int .i64 v)), (4, .op 1 0 0), (8, .os 2 0 0), (43, .os 0 0 t.length), (44, .v (.int .i64 t.length)), (45, .v (.int .i64 ((0 : Nat) : Int)))], [(0, .own false 4 (t.map Ent.row)), (1, .own false 5 [c.row]), (2, .own false 4 [])], 3⟩) [(1, 1), (2, 2)] rfl ?gts ?ghs) ?gmain; (case gts => (repeat (first | exact qd | refine qi ?_ | refine x8 ?_ | refine vo ?_ | refine qL ?_ ?_))); (case ghs => (repeat (first | exact qh | refine jU ?_ | refine qO ?_ ?_))))
  refine qr (C := C1) (fun n σ => ∃ i : Nat, i ≤ t.length ∧ n = t.length - i ∧ True ∧ σ = ⟨[(0, .os 0 0 t.length), (2, .v (.int .i64 v)), (4, .op 1 0 0), (8, .os 2 0 (jv (t.take i) c v).length), (43, .os 0 0 t.length), (44, .v (.int .i64 t.length)), (45, .v (.int .i64 (i : Int)))], [(0, .own false 4 (t.map Ent.row)), (1, .own false 5 [c.row]), (2, .own false 4 ((jv (t.take i) c v).map Ent.row))], 3⟩) t.length ⟨0, Nat.zero_le _, rfl, trivial, rfl⟩ ?_
  rintro n σ ⟨i, hi, rfl, -, rfl⟩
  have hgl : (jv (t.take i) c v).length ≤ i := by
    unfold jv
    rw [List.length_map]
    have h1 : ((t.take i).filter (zx c.path)).length ≤ (t.take i).length := List.length_filter_le ..
    simp at h1; omega
  by_cases hlt : i < t.length
  · have hr := qx (f := Ent.row) hlt
    have hpx := hgt t[i] (List.getElem_mem _)
    have lx := jp hpx
    have hin := qdU t[i].path c.path (by omega)
    have hgs := @Xv t c v i hlt
    have hmv := qc3 t[i].path c.path c.to (by omega) (by omega) (by omega)
    have hme := @QX t[i].path c.path c.to hpx hc1 hc2
    have hnb1 := hnb t[i] (List.getElem_mem _)
    have hmt : ∀ w, (if t[i].path = c.path then v else t[i].ver) = w → (yL c v t[i]).row = [.v (str (c.to ++ t[i].path.drop c.path.length)), .v (.bool t[i].fold), .v (str t[i].text), .v (.int .i64 w)] := fun w hw => by simp [yL, Ent.row, hw]
    generalize hG : jv (t.take i) c v = G at hgl hgs ⊢
    generalize inB t[i].path c.path = I at *
    cases I with
    | false =>
      rw [if_neg (by decide)] at hgs
      repeat' (first | refine qe ?_ | (first | (refine vz ?_) | (refine j4 ?_) | (refine xK ?_) | refine xsF Tryz.func186 (hin ..) ?_ | refine xsQ Tryz.func191 (hmv ..) ?_) | ((first | refine qb ?_ ?_ | refine qc ?_ ?_ | refine xsC ?_ ?_); all_goals (intro hc; have hp := hc; try simp at hp; try (exfalso; omega))) | refine qv ?_ ?_)
      all_goals try (exfalso; omega)
      refine ⟨t.length - (i + 1), _, by omega, jt (τ := ⟨[(0, .os 0 0 t.length), (2, .v (.int .i64 v)), (4, .op 1 0 0), (8, .os 2 0 (jv (t.take (i + 1)) c v).length), (43, .os 0 0 t.length), (44, .v (.int .i64 t.length)), (45, .v (.int .i64 ((i + 1 : Nat) : Int)))], [(0, .own false 4 (t.map Ent.row)), (1, .own false 5 [c.row]), (2, .own false 4 ((jv (t.take (i + 1)) c v).map Ent.row))], 3⟩) [(1, 1), (2, 2)] rfl ?gts ?ghs, i + 1, by omega, rfl, trivial, rfl⟩; (case gts => (repeat (first | exact qd | refine qi ?_ | refine x8 ?_ | refine vo ?_ | refine qL ?_ ?_)); all_goals (rw [hgs])); (case ghs => (repeat (first | exact qh | refine jU ?_ | refine qO ?_ ?_)); all_goals (rw [hgs]))
    | true =>
      have hme2 := hme rfl
      clear hme
      rw [if_pos rfl] at hgs
      have hlen1 : (jv (t.take (i + 1)) c v).length = G.length + 1 := by rw [hgs]; simp
      generalize c.to ++ t[i].path.drop c.path.length = Q at *
      generalize vr t[i].path c.path c.to = E at *
      have hq : yn Q = false := hnb1 rfl
      rw [hq, if_neg (by decide)] at hme2
      subst hme2
      repeat' (first | refine qe ?_ | (first | (refine vz ?_) | (refine j4 ?_) | (refine xK ?_) | refine xsF Tryz.func186 (hin ..) ?_ | refine xsQ Tryz.func191 (hmv ..) ?_) | ((first | refine qb ?_ ?_ | refine qc ?_ ?_ | refine xsC ?_ ?_); all_goals (intro hc; have hp := hc; try simp at hp; try (exfalso; omega))) | refine qv ?_ ?_)
      all_goals try (exfalso; omega)
      · have hrow := hmt v (if_pos (by assumption))
        clear hmt hin hmv hgt hpx lx hr hq hnb hnb1 hwo hE hD
        refine ⟨t.length - (i + 1), _, by omega, jt (τ := ⟨[(0, .os 0 0 t.length), (2, .v (.int .i64 v)), (4, .op 1 0 0), (8, .os 2 0 (jv (t.take (i + 1)) c v).length), (43, .os 0 0 t.length), (44, .v (.int .i64 t.length)), (45, .v (.int .i64 ((i + 1 : Nat) : Int)))], [(0, .own false 4 (t.map Ent.row)), (1, .own false 5 [c.row]), (2, .own false 4 ((jv (t.take (i + 1)) c v).map Ent.row))], 3⟩) [(1, 1), (4, 2)] rfl ?gts ?ghs, i + 1, by omega, rfl, trivial, rfl⟩; (case gts => (repeat (first | exact qd | refine qi ?_ | refine x8 ?_ | refine vo ?_ | refine qL ?_ ?_)); all_goals (first | (rw [hlen1]; done) | (rw [hgs, List.map_append, List.take_of_length_le (by simp)]; show _ = _ ++ [(yL c v t[i]).row]; rw [hrow]; rfl))); (case ghs => (repeat (first | exact qh | refine jU ?_ | refine qO ?_ ?_)); all_goals (first | (rw [hlen1]; done) | (rw [hgs, List.map_append, List.take_of_length_le (by simp)]; show _ = _ ++ [(yL c v t[i]).row]; rw [hrow]; rfl)))
      · have hrow := hmt t[i].ver (if_neg (by assumption))
        clear hmt hin hmv hgt hpx lx hr hq hnb hnb1 hwo hE hD
        refine ⟨t.length - (i + 1), _, by omega, jt (τ := ⟨[(0, .os 0 0 t.length), (2, .v (.int .i64 v)), (4, .op 1 0 0), (8, .os 2 0 (jv (t.take (i + 1)) c v).length), (43, .os 0 0 t.length), (44, .v (.int .i64 t.length)), (45, .v (.int .i64 ((i + 1 : Nat) : Int)))], [(0, .own false 4 (t.map Ent.row)), (1, .own false 5 [c.row]), (2, .own false 4 ((jv (t.take (i + 1)) c v).map Ent.row))], 3⟩) [(1, 1), (4, 2)] rfl ?gts ?ghs, i + 1, by omega, rfl, trivial, rfl⟩; (case gts => (repeat (first | exact qd | refine qi ?_ | refine x8 ?_ | refine vo ?_ | refine qL ?_ ?_)); all_goals (first | (rw [hlen1]; done) | (rw [hgs, List.map_append, List.take_of_length_le (by simp)]; show _ = _ ++ [(yL c v t[i]).row]; rw [hrow]; rfl))); (case ghs => (repeat (first | exact qh | refine jU ?_ | refine qO ?_ ?_)); all_goals (first | (rw [hlen1]; done) | (rw [hgs, List.map_append, List.take_of_length_le (by simp)]; show _ = _ ++ [(yL c v t[i]).row]; rw [hrow]; rfl)))
  obtain rfl : i = t.length := by omega
  have hgl2 : (jv t c v).length ≤ t.length := by rw [List.take_length] at hgl; exact hgl
  rw [List.take_length]
  generalize hK : jV (zx c.path) t = K at *
  generalize hGo : jv t c v = G at *
  generalize yd t c v = E at *
  clear hnb hgl
  repeat' (first | refine qe ?_ | (first | (apply qH Tryz.func190 rfl rfl; intro hIsFn; refine wI ([0]) 0 hIsFn (hwo ..) ?_)) | ((first | refine qb ?_ ?_ | refine qc ?_ ?_ | refine xsC ?_ ?_); all_goals (intro hc; have hp := hc; try simp at hp; try (exfalso; omega))) | refine qv ?_ ?_)
  all_goals try (exfalso; omega)
  refine Awp.red (C := C1) (WF 0 0 K.length rfl rfl (List.take_of_length_le (by simp)) (Nat.ne_of_beq_eq_false rfl) (Nat.le_of_ble_eq_true rfl)) ?_
  (refine Awp.red (jt (τ := ⟨[(0, .os 2 0 ((G.take 0).foldl yO K).length), (86, .os 1 0 G.length), (87, .v (.int .i64 G.length)), (88, .v (.int .i64 ((0 : Nat) : Int)))], [(1, .own false 4 (G.map Ent.row)), (2, .own false 4 (((G.take 0).foldl yO K).map Ent.row))], 3⟩) [(2, 1), (3, 2)] rfl ?gts2 ?ghs2) ?gmain2; (case gts2 => (repeat (first | exact qd | refine qi ?_ | refine x8 ?_ | refine vo ?_ | refine qL ?_ ?_)); all_goals skip); (case ghs2 => (repeat (first | exact qh | refine jU ?_ | refine qO ?_ ?_))))
  refine qr (C := C1) (fun n σ => ∃ i : Nat, i ≤ G.length ∧ n = G.length - i ∧ True ∧ σ = ⟨[(0, .os 2 0 ((G.take i).foldl yO K).length), (86, .os 1 0 G.length), (87, .v (.int .i64 G.length)), (88, .v (.int .i64 (i : Int)))], [(1, .own false 4 (G.map Ent.row)), (2, .own false 4 (((G.take i).foldl yO K).map Ent.row))], 3⟩) G.length ⟨0, Nat.zero_le _, rfl, trivial, rfl⟩ ?_
  rintro n σ ⟨i, hi, rfl, -, rfl⟩
  have hLr := kc (l := G.take i) hkr
  have hLl := Qr (G.take i) K
  have hLs := fun h => @qay G K i h
  have htl : (G.take i).length ≤ G.length := by simp; omega
  by_cases hlt : i < G.length
  · have hr := qx (f := Ent.row) hlt
    have hLs := hLs hlt
    generalize (G.take i).foldl yO K = L at *
    have hput := qfS L G[i] (by omega) hLr
    rw [← hLs] at hput
    repeat' (first | refine qe ?_ | (first | (refine vz ?_) | (apply qH Tryz.func189 rfl rfl; intro hIsFn; refine v7 ([2]) 2 hIsFn (hput ..) ?_)) | ((first | refine qb ?_ ?_ | refine qc ?_ ?_ | refine xsC ?_ ?_); all_goals (intro hc; have hp := hc; try simp at hp; try (exfalso; omega))) | refine qv ?_ ?_)
    all_goals try (exfalso; omega)
    clear hLr hLl hput hr hwo hE hD hkr
    refine ⟨G.length - (i + 1), _, by omega, jt (τ := ⟨[(0, .os 2 0 ((G.take (i + 1)).foldl yO K).length), (86, .os 1 0 G.length), (87, .v (.int .i64 G.length)), (88, .v (.int .i64 ((i + 1 : Nat) : Int)))], [(1, .own false 4 (G.map Ent.row)), (2, .own false 4 (((G.take (i + 1)).foldl yO K).map Ent.row))], 3⟩) [(1, 1), (4, 2)] rfl ?gts ?ghs, i + 1, by omega, rfl, trivial, rfl⟩; (case gts => (repeat (first | exact qd | refine qi ?_ | refine x8 ?_ | refine vo ?_ | refine qL ?_ ?_))); (case ghs => (repeat (first | exact qh | refine jU ?_ | refine qO ?_ ?_)))
  obtain rfl : i = G.length := by omega
  rw [List.take_length] at *
  rw [← hD] at *
  generalize jq t c v = L at *
  by_cases h60 : 60 < L.length
  · rw [if_pos h60] at hE
    subst hE
    repeat' (first | refine qe ?_ | fail | ((first | refine qb ?_ ?_ | refine qc ?_ ?_ | refine xsC ?_ ?_); all_goals (intro hc; have hp := hc; try simp at hp; try (exfalso; omega))) | refine qv ?_ ?_)
    all_goals try (exfalso; omega)
    (refine QB (rs := [.tmp 6, .tmp 7]) [(2, 1)] 2 ?_; (apply j6 0; exact jm rfl; (repeat (first | exact qh | refine jU ?_ | refine qO ?_ ?_))); all_goals trace_state)
  · rw [if_neg h60] at hE
    subst hE
    repeat' (first | refine qe ?_ | fail | ((first | refine qb ?_ ?_ | refine qc ?_ ?_ | refine xsC ?_ ?_); all_goals (intro hc; have hp := hc; try simp at hp; try (exfalso; omega))) | refine qv ?_ ?_)
    all_goals try (exfalso; omega)
    (refine QB (rs := [.tmp 6, .tmp 7]) [(2, 1)] 2 ?_; (apply j6 0; exact jm rfl; (repeat (first | exact qh | refine jU ?_ | refine qO ?_ ?_))); all_goals trace_state)
end Go.Proofs.YtiljlcgmcmjcoaaGreatDoor
set_option linter.unusedSimpArgs false
set_option linter.unnecessarySimpa false
namespace Go.Proofs.YtiljlcgmcmjcoaaGreatDoor
theorem qbR {s : qC} : qo s = true ↔ s ≠ [] ∧ s.length ≤ 20 ∧ s ≠ [46] ∧ s ≠ [46, 46] ∧ s.head? ≠ some 32 ∧ s.getLast? ≠ some 32 ∧ ∀ c, c ∈ s → KS c = true := by
  simp [qo, and_assoc]
theorem qa5 {s : qC} (h : qo s = true) : (47 : UInt8) ∉ s := fun hm => by
  have := (qbR.1 h).2.2.2.2.2.2 47 hm
  exact absurd this (by decide)
theorem qbf : qo [] = false := by simp [qo]
theorem kK {p : qC} : qD p = 0 ↔ (∀ n, n ∈ qk p → qo n = true) ∧ yn p = false := by
  unfold qD
  constructor
  · intro h
    split at h
    · rename_i h1
      split at h
      · exact absurd h (by decide)
      · rename_i h2
        exact ⟨List.all_eq_true.1 h1, by simpa using h2⟩
    · exact absurd h (by decide)
  · rintro ⟨h1, h2⟩
    rw [if_pos (List.all_eq_true.2 h1), h2]; rfl
theorem Kz {a b : qC} (h : (47 : UInt8) ∉ b) : qN (a ++ 47 :: b) = a ∧ xL (a ++ 47 :: b) = b := by
  rw [qN, xL, wi h]
  refine ⟨by rw [show (a.length : Int).toNat = a.length from by omega, List.take_left], ?_⟩
  rw [show ((a.length : Int) + 1).toNat = a.length + 1 from by omega, List.drop_append, List.drop_of_length_le (by omega), List.nil_append, show a.length + 1 - a.length = 1 from by omega]; rfl
theorem y8 {p : qC} {l : List qC} : yG (p :: l) = 0 ↔ qD p = 0 ∧ yG l = 0 := by
  show (if qD p = 0 then yG l else qD p) = 0 ↔ _
  split
  · rename_i h; simp [h]
  · rename_i h; simp [h]
theorem qbD {p f t : qC} (h : vr p f t = 0) :
    vr (t ++ p.drop f.length) t f = 0 ∧ yG [t ++ p.drop f.length, t] = 0 ∧ inB (t ++ p.drop f.length) t = true ∧ f ++ (t ++ p.drop f.length).drop t.length = p := by
  unfold vr at h
  split at h
  case isFalse h' => exact absurd h h'
  rename_i h0
  split at h
  case isFalse => exact absurd h (by decide)
  rename_i hi
  split at h
  case isTrue => exact absurd h (by decide)
  rename_i hg
  obtain ⟨hp, h1⟩ := y8.1 h0
  obtain ⟨hf, h2⟩ := y8.1 h1
  obtain ⟨ht, -⟩ := y8.1 h2
  obtain ⟨np, gp⟩ := kK.1 hp
  obtain ⟨nt, -⟩ := kK.1 ht
  have hr := Kk (t := t) hi
  have hall : ∀ n, n ∈ qk t ++ (qk p).drop (qk f).length → qo n = true := fun n hm => by
    rcases List.mem_append.1 hm with hm | hm
    · exact nt n hm
    · exact np n (List.mem_of_mem_drop hm)
  have hnm : qk (t ++ p.drop f.length) = qk t ++ (qk p).drop (qk f).length := by
    rw [← hr]
    exact J8 (by simp [xD]) fun n hm => qa5 (hall n hm)
  have hm : qD (t ++ p.drop f.length) = 0 := kK.2 ⟨by rw [hnm]; exact hall, by simpa using hg⟩
  have hb : inB (t ++ p.drop f.length) t = true := by
    rw [Vj, hnm, List.isPrefixOf_iff_prefix]; exact List.prefix_append ..
  have hpre : f ++ p.drop f.length = p := by
    simp only [inB, Bool.or_eq_true, decide_eq_true_eq, List.isPrefixOf_iff_prefix] at hi
    rcases hi with rfl | ⟨s, rfl⟩
    · simp
    · rw [List.append_assoc, List.drop_left]
  have hback : f ++ (t ++ p.drop f.length).drop t.length = p := by rw [List.drop_left]; exact hpre
  refine ⟨?_, ?_, hb, hback⟩
  · unfold vr
    rw [if_pos (y8.2 ⟨hm, y8.2 ⟨ht, y8.2 ⟨hf, rfl⟩⟩⟩), if_pos hb, hback, gp]; rfl
  · exact y8.2 ⟨hm, y8.2 ⟨ht, rfl⟩⟩
end Go.Proofs.YtiljlcgmcmjcoaaGreatDoor
