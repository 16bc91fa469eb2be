import Derived.Test.YtiljlcgmcmjcoaaGreatDoorMz10
import Derived.Test.YtiljlcgmcmjcoaaGreatDoorMz9
set_option linter.unusedSimpArgs false
set_option linter.unnecessarySimpa false
set_option linter.unusedVariables false
set_option maxHeartbeats 1000000
namespace Go.Proofs.YtiljlcgmcmjcoaaGreatDoor
open Go.Ab Go.RowKit
set_option maxRecDepth 10000
attribute [local irreducible] Awp jV q9 qJ Red qy Go.Ab.Fin ql Rz yQ qA qG ResOk jC q6 jH qT
def jR (p : Ent → Bool) (t : List Ent) : List Ent := t.filter fun x => !p x
theorem Qg {p : Ent → Bool} {t : List Ent} {j : Nat} (h : j < t.length) : jR p (t.take (j + 1)) = if p t[j] = true then jR p (t.take j) else jR p (t.take j) ++ [t[j]] := by
  unfold jR
  rw [List.take_succ_eq_append_getElem h, List.filter_append]
  cases hs : p t[j] <;> simp [hs]
theorem YP (p : Ent → Bool) (t : List Ent) (j : Nat) (hj : j ≤ t.length) : (jR p (t.take j)).length ≤ j := by
  have h1 : (jR p (t.take j)).length ≤ (t.take j).length := List.length_filter_le ..
  simp at h1; omega
theorem Ko (p : Ent → Bool) (g : FuncId) (hg : IsFn C1.P g) (cap : List AV) (hcap : AV.pure.pureL cap = true) (t : List Ent) (hl : t.length ≤ 1000000) (hcf : ∀ s, s ∈ t → jY C1.P g (AV.agg s.row :: cap) (.v (.bool (p s)))) :
    ql C1.P 200 [.os 0 0 t.length, .clo (.func g) [] cap] [.own false 4 (t.map Ent.row)] (.os 0 0 (jR p t).length) [.own false 4 ((jR p t).map Ent.row)] := by
  have hidx := Wg p g hg cap hcap t hl hcf
  refine qa (C := C1) Tryz.func200 rfl _ Tryz.ntmps200 (Nat.le_of_ble_eq_true rfl) _ Tryz.results200 1 rfl rfl ?_
  rcases xf p t with ⟨h1, h2⟩ | ⟨k, hk, h1, h2, h3⟩
  · have hall : jR p t = t := List.filter_eq_self.2 fun x hx => by rw [h2 x hx]; rfl
    rw [h1] at hidx
    rw [hall]
    repeat' (first | refine qe ?_ | (first | (apply qj; apply yd ([0]); exact jG Tryz.func198 rfl rfl; exact hidx; (case hz => (exact qm (ya rfl (by simp) (js fun _ => rfl)) (qm (xh hcap) qZ))); (case hfl => rfl); (case hN => exact nle rfl))) | ((first | refine qc ?_ ?_ | refine qb ?_ ?_ | refine xsC ?_ ?_); all_goals (intro hc; have hp := hc; try simp at hp; try (exfalso; omega))) | refine qw ?_ ?_)
    all_goals try (exfalso; omega)
    (refine w8 (rs := [.tmp 4]) [] 1 ?_; (repeat (first | exact qg | refine jQ ?_ | refine qM ?_ ?_)); all_goals trace_state)
  · rw [h1] at hidx
    have hk1 : jR p (t.take (k + 1)) = t.take k := by
      rw [Qg hk, if_pos h3]
      exact List.filter_eq_self.2 fun x hx => by rw [h2 x hx]; rfl
    repeat' (first | refine qe ?_ | (first | (apply qj; apply yd ([0]); exact jG Tryz.func198 rfl rfl; exact hidx; (case hz => (exact qm (ya rfl (by simp) (js fun _ => rfl)) (qm (xh hcap) qZ))); (case hfl => rfl); (case hN => exact nle rfl))) | ((first | refine qc ?_ ?_ | refine qb ?_ ?_ | refine xsC ?_ ?_); all_goals (intro hc; have hp := hc; try simp at hp; try (exfalso; omega))) | refine qw ?_ ?_)
    all_goals try (exfalso; omega)
    (refine Awp.red (jq (τ := ⟨[(0, .os 0 0 t.length), (1, .clo (.func g) [] cap), (5, .v (.int .i64 (k : Int))), (6, .v (.int .i64 ((k : Int) + 1)))], [(0, .own false 4 (t.map Ent.row))], 1⟩) [] rfl ?gts ?ghs) ?gmain; (case gts => (repeat (first | exact qd | refine qi ?_ | refine xM ?_ | refine vc ?_ | refine qR ?_ ?_))); (case ghs => (repeat (first | exact qg | refine jQ ?_ | refine qM ?_ ?_))))
    refine qu (C := C1) (fun n σ => ∃ (j : Nat) (E : List Ent), k + 1 ≤ j ∧ j ≤ t.length ∧ n = t.length - j ∧ E.length = t.length ∧ E.take (jR p (t.take j)).length = jR p (t.take j) ∧ E.drop j = t.drop j ∧ σ = ⟨[(0, .os 0 0 t.length), (1, .clo (.func g) [] cap), (5, .v (.int .i64 ((jR p (t.take j)).length : Int))), (6, .v (.int .i64 (j : Int)))], [(0, .own false 4 (E.map Ent.row))], 1⟩) (t.length - (k + 1)) ⟨k + 1, t, Nat.le_refl _, hk, rfl, rfl, (by rw [hk1]; simp), rfl, ?_⟩ ?_
    · have htl : (t.take k).length = k := by simp; omega
      rw [hk1, htl]; rfl
    rintro n σ ⟨j, E, hkj, hj, rfl, hEl, hEt, hEd, rfl⟩
    have hil := YP p t j hj
    by_cases hlt : j < t.length
    · have hej : E[j]'(by omega) = t[j] := by
        have h := congrArg (fun l => l[0]?) hEd
        simp only [List.getElem?_drop, Nat.add_zero] at h
        rw [List.getElem?_eq_getElem (by omega), List.getElem?_eq_getElem hlt] at h
        exact Option.some.inj h
      have hr := qF (f := Ent.row) (l := E) (i := j) (by omega)
      rw [hej] at hr
      have hci := hcf t[j] (List.getElem_mem _)
      have hks := @Qg p t j hlt
      have hEd2 : E.drop (j + 1) = t.drop (j + 1) := by rw [← List.drop_drop, hEd, List.drop_drop]
      have hml : (E.map Ent.row).length = E.length := List.length_map ..
      have hrw : ∀ i : Nat, i < E.length → (E.map Ent.row)[i]? = some (E[i]?.getD t[j]).row := fun i hi => by
        rw [List.getElem?_map, List.getElem?_eq_getElem hi]; rfl
      have hri := hrw (jR p (t.take j)).length (by omega)
      generalize hI : (jR p (t.take j)).length = i at *
      generalize p t[j] = P at *
      cases P with
      | true =>
        rw [if_pos rfl] at hks
        repeat' (first | refine qe ?_ | (first | (refine vk ?_) | (apply qj; apply zk []; rfl; exact hg; exact hci; (case hz => exact qm (qQ rfl) (ka hcap)); (case hfl => rfl); (case hN => exact nle rfl))) | ((first | refine qc ?_ ?_ | refine qb ?_ ?_ | refine xsC ?_ ?_); all_goals (intro hc; have hp := hc; try simp at hp; try (exfalso; omega))) | refine qw ?_ ?_)
        all_goals try (exfalso; omega)
        refine ⟨t.length - (j + 1), _, by omega, jq (τ := ⟨[(0, .os 0 0 t.length), (1, .clo (.func g) [] cap), (5, .v (.int .i64 ((jR p (t.take (j + 1))).length : Int))), (6, .v (.int .i64 ((j + 1 : Nat) : Int)))], [(0, .own false 4 (List.map Ent.row E))], 1⟩) [] rfl ?gts ?ghs, j + 1, E, by omega, by omega, rfl, hEl, (by rw [hks, hI]; exact hEt), hEd2, rfl⟩; (case gts => (repeat (first | exact qd | refine qi ?_ | refine xM ?_ | refine vc ?_ | refine qR ?_ ?_)); all_goals (rw [hks, hI])); (case ghs => (repeat (first | exact qg | refine jQ ?_ | refine qM ?_ ?_)); all_goals skip)
      | false =>
        rw [if_neg (by decide)] at hks
        have hlen1 : (jR p (t.take (j + 1))).length = i + 1 := by rw [hks, List.length_append, hI]; rfl
        have hset : (E.set i t[j]).take (i + 1) = jR p (t.take (j + 1)) := by
          rw [hks, List.take_set, ← hEt, List.take_succ_eq_append_getElem (by omega)]
          rw [List.set_append_right _ _ (by simp; omega)]
          simp [show i - min i E.length = 0 from by omega]
        have hdr : (E.set i t[j]).drop (j + 1) = t.drop (j + 1) := by rw [List.drop_set_of_lt (by omega)]; exact hEd2
        repeat' (first | refine qe ?_ | (first | (refine vk ?_) | (apply qj; apply zk []; rfl; exact hg; exact hci; (case hz => exact qm (qQ rfl) (ka hcap)); (case hfl => rfl); (case hN => exact nle rfl))) | ((first | refine qc ?_ ?_ | refine qb ?_ ?_ | refine xsC ?_ ?_); all_goals (intro hc; have hp := hc; try simp at hp; try (exfalso; omega))) | refine qw ?_ ?_)
        all_goals try (exfalso; omega)
        refine ⟨t.length - (j + 1), _, by omega, jq (τ := ⟨[(0, .os 0 0 t.length), (1, .clo (.func g) [] cap), (5, .v (.int .i64 ((jR p (t.take (j + 1))).length : Int))), (6, .v (.int .i64 ((j + 1 : Nat) : Int)))], [(0, .own false 4 (List.map Ent.row (E.set i t[j])))], 1⟩) [] rfl ?gts ?ghs, j + 1, (E.set i t[j]), by omega, by omega, rfl, (by rw [List.length_set]; exact hEl), (by rw [hlen1]; exact hset), hdr, rfl⟩; (case gts => (repeat (first | exact qd | refine qi ?_ | refine xM ?_ | refine vc ?_ | refine qR ?_ ?_)); all_goals (rw [hlen1])); (case ghs => (repeat (first | exact qg | refine jQ ?_ | refine qM ?_ ?_)); all_goals (rw [List.map_set]; rfl))
    obtain rfl : j = t.length := by omega
    rw [List.take_length] at *
    repeat' (first | refine qe ?_ | (first | (refine Q7 ?_) | (refine qb5 ?_)) | ((first | refine qc ?_ ?_ | refine qb ?_ ?_ | refine xsC ?_ ?_); all_goals (intro hc; have hp := hc; try simp at hp; try (exfalso; omega))) | refine qw ?_ ?_)
    all_goals try (exfalso; omega)
    apply qb3 (C := C1) 0 (jR p t).length
    case hn => rfl
    case hr =>
      refine Eq.trans (b := (jR p t).map Ent.row) ?_ rfl
      rw [List.append_assoc, List.take_append_of_le_length (by simp; omega), Nat.zero_add, List.take_take, Nat.min_self, ← List.map_take, hEt]
    (apply je (rs := [.tmp 4]) [] 1; (case hr => (repeat (first | exact qO | (apply qP; rfl) | (apply qE; rfl; rfl; rfl; rfl; rfl)))); (case hL => rfl); (case hh => (repeat (first | exact qg | refine jQ ?_ | refine qM ?_ ?_)); all_goals trace_state); (case hi => first | exact (rfl : _ = ([] : List (Nat × Nat))) | exact (rfl : _ = [((0 : Nat), (0 : Nat))]) | exact (rfl : _ = [((0 : Nat), (0 : Nat)), (1, 1)])); (case hz => first | rfl | (simp [jw, AV.ren, AV.ren.renL, qU, qp, qS]; done) | (simp [jw, AV.ren, AV.ren.renL, qU, qp, qS, *]; done) | (simp [jw, AV.ren, AV.ren.renL, qU, qp, qS]; omega)))
def zg (p : qB) (x : Ent) : Bool := inB x.path p
theorem qbF (x : Ent) (p : qB) (hp : p.length ≤ 140737488355328) : jY C.P 201 [.agg x.row, .fp [[.v (str p)]] 0 0] (.v (.bool (zg p x))) := by
  have hin := qcM x.path p hp
  refine qa Tryz.func201 rfl _ Tryz.ntmps201 (Nat.le_of_ble_eq_true rfl) _ Tryz.results201 0 rfl rfl ?_
  repeat' (first | refine qe ?_ | (first | refine xsF Tryz.func186 (hin ..) ?_) | ((first | refine xsC ?_ ?_); all_goals (intro hc; have hp := hc; try simp at hp; try (exfalso; omega))) | refine qw ?_ ?_)
  all_goals (apply jA; rfl; rfl)
theorem ZM (t : List Ent) (p : qB) (hl : t.length ≤ 1000000) (hpl : p.length ≤ 140737488355328) :
    ql C1.P 190 [.os 0 0 t.length, .v (str p)] [.own false 4 (t.map Ent.row)] (.os 0 0 (jR (zg p) t).length) [.own false 4 ((jR (zg p) t).map Ent.row)] := by
  have hdel := Ko (zg p) 201 (jG Tryz.func201 rfl rfl) [.fp [[.v (str p)]] 0 0] rfl t hl (fun x _ => qbF x p hpl)
  refine qa (C := C1) Tryz.func190 rfl _ Tryz.ntmps190 (Nat.le_of_ble_eq_true rfl) _ Tryz.results190 1 rfl rfl ?_
  (repeat apply j0); apply jm; (repeat' (first | apply jL | refine zc ?_ | refine zd ?_ | refine zi ?_ | refine kV ?_ | refine za ?_ | refine Qa ?_ | refine ze ?_ | refine Qu ?_ | refine qgF ?_ | refine wj ?_ | refine JH ?_ | refine qgD ?_ | refine QL ?_ | refine Xh ?_ | refine YS ?_ | refine wI ?_ | refine zl ?_ | refine vH ?_ | (first | fail) | refine xl ?_ | refine x7 ?_ | refine xX ?_ | refine xb ?_ | refine y9 ?_ | refine zn ?_ | refine zr ?_ | refine x3 ?_ | refine x6 ?_ | ((first | refine qc ?_ ?_ | refine qb ?_ ?_); all_goals (intro hc; have hp := hc; try simp at hp; try (exfalso; omega))))); show Awp _ _ _ _ _
  refine kf 3 1 ?_
  repeat' (first | refine qe ?_ | (first | (apply qH Tryz.func200 rfl rfl; intro hIsFn; refine wD ([0]) 0 hIsFn (hdel ..) ?_)) | ((first | refine qc ?_ ?_ | refine qb ?_ ?_ | refine xsC ?_ ?_); all_goals (intro hc; have hp := hc; try simp at hp; try (exfalso; omega))) | refine qw ?_ ?_)
  all_goals try (exfalso; omega)
  (apply je (rs := [.tmp 4]) [] 1; (case hr => (repeat (first | exact qO | (apply qP; rfl) | (apply qE; rfl; rfl; rfl; rfl; rfl)))); (case hL => rfl); (case hh => (repeat (first | exact qg | refine jQ ?_ | refine qM ?_ ?_)); all_goals trace_state); (case hi => first | exact (rfl : _ = ([] : List (Nat × Nat))) | exact (rfl : _ = [((0 : Nat), (0 : Nat))]) | exact (rfl : _ = [((0 : Nat), (0 : Nat)), (1, 1)])); (case hz => first | rfl | (simp [jw, AV.ren, AV.ren.renL, qU, qp, qS]; done) | (simp [jw, AV.ren, AV.ren.renL, qU, qp, qS, *]; done) | (simp [jw, AV.ren, AV.ren.renL, qU, qp, qS]; omega)))
end Go.Proofs.YtiljlcgmcmjcoaaGreatDoor
set_option linter.unusedSimpArgs false
set_option linter.unnecessarySimpa false
set_option linter.unusedVariables false
set_option maxHeartbeats 1000000
namespace Go.Proofs.YtiljlcgmcmjcoaaGreatDoor
open Go.Ab Go.RowKit
set_option maxRecDepth 10000
attribute [local irreducible] Awp jV q9 qJ Red qy Go.Ab.Fin ql Rz yQ qA qG ResOk jC q6 jH qT
def yD (c : Chg) (v : Int) (x : Ent) : Ent := ⟨c.to ++ x.path.drop c.path.length, x.fold, x.text, if x.path = c.path then v else x.ver⟩
def jr (t : List Ent) (c : Chg) (v : Int) : List Ent := (t.filter (zg c.path)).map (yD c v)
def jl (t : List Ent) (c : Chg) (v : Int) : List Ent :=
  if c.kind = 1 then yJ t ⟨c.path, true, [], v⟩
  else if c.kind = 2 then yJ t ⟨c.path, false, c.text, v⟩
  else if c.kind = 4 then jR (zg c.path) t
  else (jr t c v).foldl yJ (jR (zg c.path) t)
def yC (t : List Ent) (c : Chg) : Bool := decide (c.kind = 3) && (t.filter (zg c.path)).any fun x => yl (c.to ++ x.path.drop c.path.length)
def j9 (t : List Ent) (c : Chg) (v : Int) : Int := if yC t c = true then 2 else if 60 < (jl t c v).length then 2 else 0
def Z5 (e : Int) (n : Nat) : AV := if e = 0 then .tup [.os 1 0 n, .v (.int .i64 0)] else .tup [.sl true [], .v (.int .i64 e)]
theorem qgf (t : List Ent) (c : Chg) (v : Int) (hl : t.length ≤ 1000000) (hs : qr j5 t = true) (hk : c.kind = 1) (hlen : (jl t c v).length ≤ 1000001) :
    ql C1.P 175 [.os 0 0 t.length, .agg c.row, .v (.int .i64 v)] [.own false 4 (t.map Ent.row)] (Z5 (j9 t c v) (jl t c v).length) [.dead, .own false 4 ((jl t c v).map Ent.row)] := by
  have hput : ql C1.P 189 [.os 0 0 t.length, .agg [.v (str c.path), .v (.bool true), .v (str []), .v (.int .i64 v)]] [.own false 4 (t.map Ent.row)] _ _ := qdK t ⟨c.path, true, [], v⟩ hl hs
  have hD : jl t c v = yJ t ⟨c.path, true, [], v⟩ := by simp [jl, hk]
  have hE : j9 t c v = if 60 < (jl t c v).length then 2 else 0 := by simp [j9, yC, hk]
  rw [← hD] at hput
  generalize j9 t c v = E at *
  generalize jl t c v = L at *
  by_cases h60 : 60 < L.length
  · rw [if_pos h60] at hE
    subst hE
    refine qa (C := C1) Tryz.func175 rfl _ Tryz.ntmps175 (Nat.le_of_ble_eq_true rfl) _ Tryz.results175 1 rfl rfl ?_
    repeat' (first | refine qe ?_ | (first | (apply qH Tryz.func189 rfl rfl; intro hIsFn; refine vN ([0]) 0 hIsFn (hput ..) ?_)) | ((first | refine qc ?_ ?_ | refine qb ?_ ?_ | refine xsC ?_ ?_); all_goals (intro hc; have hp := hc; try simp at hp; try (exfalso; omega))) | refine qw ?_ ?_)
    all_goals try (exfalso; omega)
    (refine w8 (rs := [.tmp 6, .tmp 7]) [(2, 1)] 2 ?_; (apply j4 0; exact jh rfl; (repeat (first | exact qg | refine jQ ?_ | refine qM ?_ ?_))); all_goals trace_state)
  · rw [if_neg h60] at hE
    subst hE
    refine qa (C := C1) Tryz.func175 rfl _ Tryz.ntmps175 (Nat.le_of_ble_eq_true rfl) _ Tryz.results175 1 rfl rfl ?_
    repeat' (first | refine qe ?_ | (first | (apply qH Tryz.func189 rfl rfl; intro hIsFn; refine vN ([0]) 0 hIsFn (hput ..) ?_)) | ((first | refine qc ?_ ?_ | refine qb ?_ ?_ | refine xsC ?_ ?_); all_goals (intro hc; have hp := hc; try simp at hp; try (exfalso; omega))) | refine qw ?_ ?_)
    all_goals try (exfalso; omega)
    (refine w8 (rs := [.tmp 6, .tmp 7]) [(2, 1)] 2 ?_; (apply j4 0; exact jh rfl; (repeat (first | exact qg | refine jQ ?_ | refine qM ?_ ?_))); all_goals trace_state)
theorem qfI (t : List Ent) (c : Chg) (v : Int) (hl : t.length ≤ 1000000) (hs : qr j5 t = true) (hk : c.kind = 2) (hlen : (jl t c v).length ≤ 1000001) :
    ql C1.P 175 [.os 0 0 t.length, .agg c.row, .v (.int .i64 v)] [.own false 4 (t.map Ent.row)] (Z5 (j9 t c v) (jl t c v).length) [.dead, .own false 4 ((jl t c v).map Ent.row)] := by
  have hput : ql C1.P 189 [.os 0 0 t.length, .agg [.v (str c.path), .v (.bool false), .v (str c.text), .v (.int .i64 v)]] [.own false 4 (t.map Ent.row)] _ _ := qdK t ⟨c.path, false, c.text, v⟩ hl hs
  have hD : jl t c v = yJ t ⟨c.path, false, c.text, v⟩ := by simp [jl, hk]
  have hE : j9 t c v = if 60 < (jl t c v).length then 2 else 0 := by simp [j9, yC, hk]
  rw [← hD] at hput
  generalize j9 t c v = E at *
  generalize jl t c v = L at *
  by_cases h60 : 60 < L.length
  · rw [if_pos h60] at hE
    subst hE
    refine qa (C := C1) Tryz.func175 rfl _ Tryz.ntmps175 (Nat.le_of_ble_eq_true rfl) _ Tryz.results175 1 rfl rfl ?_
    repeat' (first | refine qe ?_ | (first | (apply qH Tryz.func189 rfl rfl; intro hIsFn; refine vN ([0]) 0 hIsFn (hput ..) ?_)) | ((first | refine qc ?_ ?_ | refine qb ?_ ?_ | refine xsC ?_ ?_); all_goals (intro hc; have hp := hc; try simp at hp; try (exfalso; omega))) | refine qw ?_ ?_)
    all_goals try (exfalso; omega)
    (refine w8 (rs := [.tmp 6, .tmp 7]) [(2, 1)] 2 ?_; (apply j4 0; exact jh rfl; (repeat (first | exact qg | refine jQ ?_ | refine qM ?_ ?_))); all_goals trace_state)
  · rw [if_neg h60] at hE
    subst hE
    refine qa (C := C1) Tryz.func175 rfl _ Tryz.ntmps175 (Nat.le_of_ble_eq_true rfl) _ Tryz.results175 1 rfl rfl ?_
    repeat' (first | refine qe ?_ | (first | (apply qH Tryz.func189 rfl rfl; intro hIsFn; refine vN ([0]) 0 hIsFn (hput ..) ?_)) | ((first | refine qc ?_ ?_ | refine qb ?_ ?_ | refine xsC ?_ ?_); all_goals (intro hc; have hp := hc; try simp at hp; try (exfalso; omega))) | refine qw ?_ ?_)
    all_goals try (exfalso; omega)
    (refine w8 (rs := [.tmp 6, .tmp 7]) [(2, 1)] 2 ?_; (apply j4 0; exact jh rfl; (repeat (first | exact qg | refine jQ ?_ | refine qM ?_ ?_))); all_goals trace_state)
theorem qfC (t : List Ent) (c : Chg) (v : Int) (hl : t.length ≤ 1000000) (hk : c.kind = 4) (hpl : c.path.length ≤ 140737488355328) :
    ql C1.P 175 [.os 0 0 t.length, .agg c.row, .v (.int .i64 v)] [.own false 4 (t.map Ent.row)] (Z5 (j9 t c v) (jl t c v).length) [.dead, .own false 4 ((jl t c v).map Ent.row)] := by
  have hwo := ZM t c.path hl hpl
  have hD : jl t c v = jR (zg c.path) t := by simp [jl, hk]
  have hE : j9 t c v = if 60 < (jl t c v).length then 2 else 0 := by simp [j9, yC, hk]
  have hlen : (jl t c v).length ≤ t.length := by rw [hD]; exact List.length_filter_le ..
  rw [← hD] at hwo
  generalize j9 t c v = E at *
  generalize jl t c v = L at *
  by_cases h60 : 60 < L.length
  · rw [if_pos h60] at hE
    subst hE
    refine qa (C := C1) Tryz.func175 rfl _ Tryz.ntmps175 (Nat.le_of_ble_eq_true rfl) _ Tryz.results175 1 rfl rfl ?_
    repeat' (first | refine qe ?_ | (first | (apply qH Tryz.func190 rfl rfl; intro hIsFn; refine wD ([0]) 0 hIsFn (hwo ..) ?_)) | ((first | refine qc ?_ ?_ | refine qb ?_ ?_ | refine xsC ?_ ?_); all_goals (intro hc; have hp := hc; try simp at hp; try (exfalso; omega))) | refine qw ?_ ?_)
    all_goals try (exfalso; omega)
    apply wL (C := C1) 0 0 L.length
    case hi => rfl
    case hn => rfl
    case hr => exact (List.take_of_length_le (by simp))
    case hnn => exact Nat.ne_of_beq_eq_false rfl
    case hnx => exact Nat.le_of_ble_eq_true rfl
    (refine w8 (rs := [.tmp 6, .tmp 7]) [(2, 1)] 2 ?_; (apply j4 0; exact jh rfl; (repeat (first | exact qg | refine jQ ?_ | refine qM ?_ ?_))); all_goals trace_state)
  · rw [if_neg h60] at hE
    subst hE
    refine qa (C := C1) Tryz.func175 rfl _ Tryz.ntmps175 (Nat.le_of_ble_eq_true rfl) _ Tryz.results175 1 rfl rfl ?_
    repeat' (first | refine qe ?_ | (first | (apply qH Tryz.func190 rfl rfl; intro hIsFn; refine wD ([0]) 0 hIsFn (hwo ..) ?_)) | ((first | refine qc ?_ ?_ | refine qb ?_ ?_ | refine xsC ?_ ?_); all_goals (intro hc; have hp := hc; try simp at hp; try (exfalso; omega))) | refine qw ?_ ?_)
    all_goals try (exfalso; omega)
    apply wL (C := C1) 6 0 L.length
    case hi => rfl
    case hn => rfl
    case hr => exact (List.take_of_length_le (by simp))
    case hnn => exact Nat.ne_of_beq_eq_false rfl
    case hnx => exact Nat.le_of_ble_eq_true rfl
    (refine w8 (rs := [.tmp 6, .tmp 7]) [(2, 1)] 2 ?_; (apply j4 0; exact jh rfl; (repeat (first | exact qg | refine jQ ?_ | refine qM ?_ ?_))); all_goals trace_state)
end Go.Proofs.YtiljlcgmcmjcoaaGreatDoor
set_option linter.unusedSimpArgs false
set_option linter.unnecessarySimpa false
set_option linter.unusedVariables false
namespace Go.Proofs.YtiljlcgmcmjcoaaGreatDoor
open Go.Op
theorem qf7 {a b : qB} (h : bytesLess a b = true) : bytesLess b a = false := by
  cases e : bytesLess b a
  · rfl
  · have := xJ h e
    rw [xu] at this; cases this
theorem Vo {a b : qB} (h : bytesLess a b = true) : ¬ a = b := fun e => by rw [e, xu] at h; cases h
theorem qgn {a b : qB} (h1 : bytesLess a b = false) (h2 : ¬ a = b) : bytesLess b a = true := by
  rcases wc a b with ⟨h, _, _⟩ | ⟨h, _, _⟩ | ⟨h, _, _⟩
  · rw [h] at h1; cases h1
  · exact absurd h h2
  · exact h
theorem KR (p : qB) : ∀ {t : List Ent}, t.Pairwise (fun a b => bytesLess a.path b.path = true) → ∃ A M Z, t = A ++ (M ++ Z) ∧ y3 t p = A.length ∧ (∀ a, a ∈ A → bytesLess a.path p = true) ∧ (∀ z, z ∈ Z → bytesLess p z.path = true) ∧
    ((yy t p = true ∧ ∃ x, M = [x] ∧ x.path = p) ∨ (yy t p = false ∧ M = []))
  | [], _ => ⟨[], [], [], rfl, rfl, nofun, nofun, .inr ⟨rfl, rfl⟩⟩
  | x :: l, h => by
    obtain ⟨h1, h2⟩ := List.pairwise_cons.1 h
    by_cases hx : bytesLess x.path p = true
    · obtain ⟨A, M, Z, rfl, hp, hA, hZ, hM⟩ := KR p h2
      have hp' : y3 (x :: (A ++ (M ++ Z))) p = A.length + 1 := by
        simp only [y3, List.takeWhile_cons, hx, if_true, List.length_cons] at hp ⊢; omega
      have hh : yy (x :: (A ++ (M ++ Z))) p = yy (A ++ (M ++ Z)) p := by
        simp [yy, atP, Vo hx]
      refine ⟨x :: A, M, Z, rfl, hp', fun a ha => ?_, hZ, by rw [hh]; exact hM⟩
      rcases List.mem_cons.1 ha with rfl | ha
      · exact hx
      · exact hA a ha
    · have hx : bytesLess x.path p = false := by simpa using hx
      have hp : y3 (x :: l) p = 0 := by simp [y3, List.takeWhile_cons, hx]
      by_cases e : x.path = p
      · subst e
        exact ⟨[], [x], l, rfl, hp, nofun, fun z hz => h1 z hz, .inl ⟨by simp [yy, atP], x, rfl, rfl⟩⟩
      · have hg := qgn hx e
        have hall : ∀ z, z ∈ x :: l → bytesLess p z.path = true := fun z hz => by
          rcases List.mem_cons.1 hz with rfl | hz
          · exact hg
          · exact xJ hg (h1 z hz)
        refine ⟨[], [], x :: l, rfl, hp, nofun, hall, .inr ⟨List.any_eq_false.2 fun z hz => ?_, rfl⟩⟩
        have := Vo (hall z hz)
        simp only [atP, decide_eq_true_eq]
        exact fun e => this e.symm
theorem JP {t A M Z : List Ent} {x : Ent} (h : t = A ++ (M ++ Z)) (hp : y3 t x.path = A.length) (hM : (yy t x.path = true ∧ ∃ y, M = [y] ∧ y.path = x.path) ∨ (yy t x.path = false ∧ M = [])) : yJ t x = A ++ ([x] ++ Z) := by
  unfold yJ
  rw [hp]
  have h1 : t.take A.length = A := by rw [h]; simp
  rw [h1]
  rcases hM with ⟨hh, y, rfl, _⟩ | ⟨hh, rfl⟩
  · simp only [hh, if_true]; rw [h]; simp
  · simp only [hh, Bool.false_eq_true, if_false]; rw [h]; simp
theorem qat (t : List Ent) (x : Ent) : (yJ t x).length ≤ t.length + 1 := by
  unfold yJ; split <;> simp <;> omega
theorem zV {t : List Ent} {x : Ent} (hs : qr j5 t = true) : qr j5 (yJ t x) = true := by
  have hl := x5.1 hs
  obtain ⟨A, M, Z, h, hp, hA, hZ, hM⟩ := KR x.path hl
  rw [JP h hp hM]
  refine x5.2 ?_
  have hsub : (A ++ Z).Sublist t := by
    rw [h]; exact List.Sublist.append_left (List.sublist_append_right _ _) _
  obtain ⟨pA, pZ, pAZ⟩ := List.pairwise_append.1 (hl.sublist hsub)
  refine List.pairwise_append.2 ⟨pA, List.pairwise_cons.2 ⟨fun z hz => hZ z hz, pZ⟩, fun a ha b hb => ?_⟩
  rcases List.mem_cons.1 hb with rfl | hb
  · exact hA a ha
  · exact pAZ a ha b hb
theorem zq {p : Ent → Bool} {t : List Ent} (hs : qr j5 t = true) : qr j5 (jR p t) = true := x5.2 ((x5.1 hs).sublist List.filter_sublist)
theorem zQ : ∀ {l t : List Ent}, qr j5 t = true → qr j5 (l.foldl yJ t) = true
  | [], _, h => h
  | x :: l, t, h => zQ (l := l) (zV h)
theorem Qp : ∀ (l t : List Ent), (l.foldl yJ t).length ≤ t.length + l.length
  | [], _ => by simp
  | x :: l, t => by
    have h1 := Qp l (yJ t x)
    have h2 := qat t x
    simp only [List.foldl_cons, List.length_cons]; omega
theorem Ww {l t : List Ent} {i : Nat} (h : i < l.length) : (l.take (i + 1)).foldl yJ t = yJ ((l.take i).foldl yJ t) l[i] := by
  rw [List.take_succ_eq_append_getElem h, List.foldl_append]; rfl
theorem jj {p : qB} (h : qC p = 0) : p.length ≤ 80 := by
  have : yl p = false := by
    unfold qC at h
    split at h
    · split at h
      · exact absurd h (by decide)
      · rename_i h2; simpa using h2
    · exact absurd h (by decide)
  simp [yl] at this; omega
theorem QG {p f t : qB} (hp : qC p = 0) (hf : qC f = 0) (ht : qC t = 0) (hi : inB p f = true) : ve p f t = if yl (t ++ p.drop f.length) = true then 2 else 0 := by
  unfold ve
  rw [if_pos (by simp [yA, hp, hf, ht]), if_pos hi]
theorem YW {t : List Ent} {c : Chg} {v : Int} {i : Nat} (h : i < t.length) : jr (t.take (i + 1)) c v = if inB t[i].path c.path = true then jr (t.take i) c v ++ [yD c v t[i]] else jr (t.take i) c v := by
  unfold jr
  rw [List.take_succ_eq_append_getElem h, List.filter_append]
  cases hs : inB t[i].path c.path <;> simp [hs, zg]
end Go.Proofs.YtiljlcgmcmjcoaaGreatDoor
set_option linter.unusedSimpArgs false
set_option linter.unnecessarySimpa false
set_option linter.unusedVariables false
namespace Go.Proofs.YtiljlcgmcmjcoaaGreatDoor
open Go.Op
def xa (x : Ent) (s : List Ent × Bool) (y : Ent) : List Ent × Bool :=
  ((if s.2 = false ∧ bytesLess y.path x.path = false then s.1 ++ [x] else s.1) ++ (if y.path = x.path then [] else [y]), s.2 || !bytesLess y.path x.path)
def vm (t : List Ent) (x : Ent) : List Ent × Bool := t.foldl (xa x) ([], false)
def W7 (t : List Ent) (x : Ent) : List Ent := if (vm t x).2 = true then (vm t x).1 else (vm t x).1 ++ [x]
theorem qcJ {t : List Ent} {x : Ent} {i : Nat} (h : i < t.length) : vm (t.take (i + 1)) x = xa x (vm (t.take i) x) t[i] := by
  unfold vm
  rw [List.take_succ_eq_append_getElem h, List.foldl_append]; rfl
theorem qdX (t : List Ent) (x : Ent) : (vm t x).1.length ≤ 2 * t.length := by
  have : ∀ (l : List Ent) (s : List Ent × Bool), (l.foldl (xa x) s).1.length ≤ s.1.length + 2 * l.length := by
    intro l
    induction l with
    | nil => intro s; simp
    | cons y l ih =>
      intro s
      have h1 := ih (xa x s y)
      have hq : (xa x s y).1.length ≤ s.1.length + 2 := by
        unfold xa
        simp only [List.length_append]
        split <;> split <;> simp
      simp only [List.foldl_cons, List.length_cons]
      omega
  have := this t ([], false)
  simpa [vm] using this
theorem WQ {x : Ent} : ∀ {A : List Ent} {s : List Ent}, (∀ a, a ∈ A → bytesLess a.path x.path = true) → A.foldl (xa x) (s, false) = (s ++ A, false)
  | [], s, _ => by simp
  | a :: A, s, h => by
    have ha := h a (by simp)
    have hs : xa x (s, false) a = (s ++ [a], false) := by
      simp [xa, ha, Vo ha]
    rw [List.foldl_cons, hs, WQ fun y hy => h y (by simp [hy])]
    simp
theorem Y2 {x : Ent} : ∀ {Z : List Ent} {s : List Ent}, (∀ z, z ∈ Z → bytesLess x.path z.path = true) → Z.foldl (xa x) (s, true) = (s ++ Z, true)
  | [], s, _ => by simp
  | z :: Z, s, h => by
    have hz := h z (by simp)
    have hs : xa x (s, true) z = (s ++ [z], true) := by
      have : ¬ z.path = x.path := fun e => Vo hz e.symm
      simp [xa, this]
    rw [List.foldl_cons, hs, Y2 fun y hy => h y (by simp [hy])]
    simp
theorem Jl {t : List Ent} {x : Ent} (hs : qr j5 t = true) : W7 t x = yJ t x := by
  obtain ⟨A, M, Z, h, hp, hA, hZ, hM⟩ := KR x.path (x5.1 hs)
  rw [JP h hp hM]
  have h1 : vm t x = Z.foldl (xa x) (M.foldl (xa x) (A, false)) := by
    unfold vm
    rw [h, List.foldl_append, List.foldl_append, WQ hA, List.nil_append]
  rcases hM with ⟨_, y, rfl, hy⟩ | ⟨_, rfl⟩
  · have h2 : xa x (A, false) y = (A ++ [x], true) := by simp [xa, hy, xu]
    rw [List.foldl_cons, List.foldl_nil, h2, Y2 hZ] at h1
    simp [W7, h1]
  · rw [List.foldl_nil] at h1
    cases Z with
    | nil => simp at h1; simp [W7, h1]
    | cons z Z =>
      have hz := hZ z (by simp)
      have h2 : xa x (A, false) z = (A ++ [x] ++ [z], true) := by
        have h3 : ¬ z.path = x.path := fun e => Vo hz e.symm
        simp [xa, qf7 hz, h3]
      rw [List.foldl_cons, h2, Y2 fun y hy => hZ y (by simp [hy])] at h1
      simp [W7, h1]
end Go.Proofs.YtiljlcgmcmjcoaaGreatDoor
set_option linter.unusedSimpArgs false
set_option linter.unnecessarySimpa false
set_option linter.unusedVariables false
set_option maxHeartbeats 1000000
namespace Go.Proofs.YtiljlcgmcmjcoaaGreatDoor
open Go.Ab Go.RowKit
set_option maxRecDepth 10000
attribute [local irreducible] Awp jV q9 qJ Red qy Go.Ab.Fin ql Rz yQ qA qG ResOk jC q6 jH qT
def zm (t : List Ent) (c : Chg) (i : Nat) : Bool := ((t.take i).filter (zg c.path)).any fun x => yl (c.to ++ x.path.drop c.path.length)
theorem WR {t : List Ent} {c : Chg} {i : Nat} (h : i < t.length) : zm t c (i + 1) = (zm t c i || (inB t[i].path c.path && yl (c.to ++ t[i].path.drop c.path.length))) := by
  unfold zm
  rw [List.take_succ_eq_append_getElem h, List.filter_append, List.any_append]
  cases hs : inB t[i].path c.path <;> simp [hs, zg]
theorem WV (t : List Ent) (c : Chg) (v : Int) (hl : t.length ≤ 1000000) (hk : c.kind = 3) (hgt : ∀ x, x ∈ t → qC x.path = 0) (hc1 : qC c.path = 0) (hc2 : qC c.to = 0) (hbad : yC t c = true) :
    ql C1.P 175 [.os 0 0 t.length, .agg c.row, .v (.int .i64 v)] [.own false 4 (t.map Ent.row)] (.tup [.sl true [], .v (.int .i64 2)]) [.own false 4 (t.map Ent.row)] := by
  have l1 := jj hc1
  have l2 := jj hc2
  have hml : (t.map Ent.row).length = t.length := List.length_map ..
  refine qa (C := C1) Tryz.func175 rfl _ Tryz.ntmps175 (Nat.le_of_ble_eq_true rfl) _ Tryz.results175 1 rfl rfl ?_
  repeat' (first | refine qe ?_ | fail | ((first | refine qc ?_ ?_ | refine qb ?_ ?_ | refine xsC ?_ ?_); all_goals (intro hc; have hp := hc; try simp at hp; try (exfalso; omega))) | refine qw ?_ ?_)
  all_goals try (exfalso; omega)
  refine Awp.red (C := C1) (vw 8 4 rfl (Nat.le_of_ble_eq_true rfl)) ?_
  (refine Awp.red (jq (τ := ⟨[(0, .os 0 0 t.length), (2, .v (.int .i64 v)), (4, .op 1 0 0), (8, .os 2 0 0), (43, .os 0 0 t.length), (44, .v (.int .i64 t.length)), (45, .v (.int .i64 ((0 : Nat) : Int)))], [(0, .own false 4 (t.map Ent.row)), (1, .own false 5 [c.row]), (2, .own false 4 [])], 3⟩) [(1, 1), (2, 2)] rfl ?gts ?ghs) ?gmain; (case gts => (repeat (first | exact qd | refine qi ?_ | refine xM ?_ | refine vc ?_ | refine qR ?_ ?_))); (case ghs => (repeat (first | exact qg | refine jQ ?_ | refine qM ?_ ?_))))
  refine qu (C := C1) (fun n σ => ∃ i : Nat, i ≤ t.length ∧ n = t.length - i ∧ zm t c i = false ∧ σ = ⟨[(0, .os 0 0 t.length), (2, .v (.int .i64 v)), (4, .op 1 0 0), (8, .os 2 0 (jr (t.take i) c v).length), (43, .os 0 0 t.length), (44, .v (.int .i64 t.length)), (45, .v (.int .i64 (i : Int)))], [(0, .own false 4 (t.map Ent.row)), (1, .own false 5 [c.row]), (2, .own false 4 ((jr (t.take i) c v).map Ent.row))], 3⟩) t.length ⟨0, Nat.zero_le _, rfl, rfl, rfl⟩ ?_
  rintro n σ ⟨i, hi, rfl, hsofar, rfl⟩
  have hgl : (jr (t.take i) c v).length ≤ i := by
    unfold jr
    rw [List.length_map]
    have h1 : ((t.take i).filter (zg c.path)).length ≤ (t.take i).length := List.length_filter_le ..
    simp at h1; omega
  by_cases hlt : i < t.length
  · have hr := qF (f := Ent.row) hlt
    have hpx := hgt t[i] (List.getElem_mem _)
    have lx := jj hpx
    have hin := qcM t[i].path c.path (by omega)
    have hgs := @YW t c v i hlt
    have hmv := qb0 t[i].path c.path c.to (by omega) (by omega) (by omega)
    have hme := @QG t[i].path c.path c.to hpx hc1 hc2
    have hbs := @WR t c i hlt
    rw [hsofar] at hbs
    have hmt : ∀ w, (if t[i].path = c.path then v else t[i].ver) = w → (yD c v t[i]).row = [.v (str (c.to ++ t[i].path.drop c.path.length)), .v (.bool t[i].fold), .v (str t[i].text), .v (.int .i64 w)] := fun w hw => by simp [yD, Ent.row, hw]
    generalize hG : jr (t.take i) c v = G at hgl hgs ⊢
    generalize inB t[i].path c.path = I at *
    cases I with
    | false =>
      rw [if_neg (by decide)] at hgs
      have hbs : zm t c (i + 1) = false := hbs
      repeat' (first | refine qe ?_ | (first | (refine vk ?_) | (refine jZ ?_) | (refine xw ?_) | refine xsF Tryz.func186 (hin ..) ?_ | refine xsQ Tryz.func191 (hmv ..) ?_) | ((first | refine qc ?_ ?_ | refine qb ?_ ?_ | refine xsC ?_ ?_); all_goals (intro hc; have hp := hc; try simp at hp; try (exfalso; omega))) | refine qw ?_ ?_)
      all_goals try (exfalso; omega)
      refine ⟨t.length - (i + 1), _, by omega, jq (τ := ⟨[(0, .os 0 0 t.length), (2, .v (.int .i64 v)), (4, .op 1 0 0), (8, .os 2 0 (jr (t.take (i + 1)) c v).length), (43, .os 0 0 t.length), (44, .v (.int .i64 t.length)), (45, .v (.int .i64 ((i + 1 : Nat) : Int)))], [(0, .own false 4 (t.map Ent.row)), (1, .own false 5 [c.row]), (2, .own false 4 ((jr (t.take (i + 1)) c v).map Ent.row))], 3⟩) [(1, 1), (2, 2)] rfl ?gts ?ghs, i + 1, by omega, rfl, (hbs), rfl⟩; (case gts => (repeat (first | exact qd | refine qi ?_ | refine xM ?_ | refine vc ?_ | refine qR ?_ ?_)); all_goals (rw [hgs])); (case ghs => (repeat (first | exact qg | refine jQ ?_ | refine qM ?_ ?_)); all_goals (rw [hgs]))
    | true =>
      have hme2 := hme rfl
      clear hme
      rw [if_pos rfl] at hgs
      have hlen1 : (jr (t.take (i + 1)) c v).length = G.length + 1 := by rw [hgs]; simp
      generalize c.to ++ t[i].path.drop c.path.length = Q at *
      generalize ve t[i].path c.path c.to = E at *
      cases hq : yl Q with
      | true =>
        rw [hq, if_pos rfl] at hme2
        subst hme2
        repeat' (first | refine qe ?_ | (first | (refine vk ?_) | (refine jZ ?_) | (refine xw ?_) | refine xsF Tryz.func186 (hin ..) ?_ | refine xsQ Tryz.func191 (hmv ..) ?_) | ((first | refine qc ?_ ?_ | refine qb ?_ ?_ | refine xsC ?_ ?_); all_goals (intro hc; have hp := hc; try simp at hp; try (exfalso; omega))) | refine qw ?_ ?_)
        all_goals try (exfalso; omega)
        all_goals ((refine w8 (rs := [.tmp 6, .tmp 7]) [] 1 ?_; (repeat (first | exact qg | refine jQ ?_ | refine qM ?_ ?_)); all_goals trace_state))
      | false =>
        rw [hq, if_neg (by decide)] at hme2
        subst hme2
        rw [hq] at hbs
        have hbs : zm t c (i + 1) = false := hbs
        repeat' (first | refine qe ?_ | (first | (refine vk ?_) | (refine jZ ?_) | (refine xw ?_) | refine xsF Tryz.func186 (hin ..) ?_ | refine xsQ Tryz.func191 (hmv ..) ?_) | ((first | refine qc ?_ ?_ | refine qb ?_ ?_ | refine xsC ?_ ?_); all_goals (intro hc; have hp := hc; try simp at hp; try (exfalso; omega))) | refine qw ?_ ?_)
        all_goals try (exfalso; omega)
        · have hrow := hmt v (if_pos (by assumption))
          clear hmt hin hmv hgt hpx lx hr hq hbad
          refine ⟨t.length - (i + 1), _, by omega, jq (τ := ⟨[(0, .os 0 0 t.length), (2, .v (.int .i64 v)), (4, .op 1 0 0), (8, .os 2 0 (jr (t.take (i + 1)) c v).length), (43, .os 0 0 t.length), (44, .v (.int .i64 t.length)), (45, .v (.int .i64 ((i + 1 : Nat) : Int)))], [(0, .own false 4 (t.map Ent.row)), (1, .own false 5 [c.row]), (2, .own false 4 ((jr (t.take (i + 1)) c v).map Ent.row))], 3⟩) [(1, 1), (4, 2)] rfl ?gts ?ghs, i + 1, by omega, rfl, (hbs), rfl⟩; (case gts => (repeat (first | exact qd | refine qi ?_ | refine xM ?_ | refine vc ?_ | refine qR ?_ ?_)); all_goals (first | (rw [hlen1]; done) | (rw [hgs, List.map_append, List.take_of_length_le (by simp)]; show _ = _ ++ [(yD c v t[i]).row]; rw [hrow]; rfl))); (case ghs => (repeat (first | exact qg | refine jQ ?_ | refine qM ?_ ?_)); all_goals (first | (rw [hlen1]; done) | (rw [hgs, List.map_append, List.take_of_length_le (by simp)]; show _ = _ ++ [(yD c v t[i]).row]; rw [hrow]; rfl)))
        · have hrow := hmt t[i].ver (if_neg (by assumption))
          clear hmt hin hmv hgt hpx lx hr hq hbad
          refine ⟨t.length - (i + 1), _, by omega, jq (τ := ⟨[(0, .os 0 0 t.length), (2, .v (.int .i64 v)), (4, .op 1 0 0), (8, .os 2 0 (jr (t.take (i + 1)) c v).length), (43, .os 0 0 t.length), (44, .v (.int .i64 t.length)), (45, .v (.int .i64 ((i + 1 : Nat) : Int)))], [(0, .own false 4 (t.map Ent.row)), (1, .own false 5 [c.row]), (2, .own false 4 ((jr (t.take (i + 1)) c v).map Ent.row))], 3⟩) [(1, 1), (4, 2)] rfl ?gts ?ghs, i + 1, by omega, rfl, (hbs), rfl⟩; (case gts => (repeat (first | exact qd | refine qi ?_ | refine xM ?_ | refine vc ?_ | refine qR ?_ ?_)); all_goals (first | (rw [hlen1]; done) | (rw [hgs, List.map_append, List.take_of_length_le (by simp)]; show _ = _ ++ [(yD c v t[i]).row]; rw [hrow]; rfl))); (case ghs => (repeat (first | exact qg | refine jQ ?_ | refine qM ?_ ?_)); all_goals (first | (rw [hlen1]; done) | (rw [hgs, List.map_append, List.take_of_length_le (by simp)]; show _ = _ ++ [(yD c v t[i]).row]; rw [hrow]; rfl)))
  · obtain rfl : i = t.length := by omega
    unfold zm at hsofar
    rw [List.take_length] at hsofar
    simp only [yC, hk, hsofar] at hbad
    simp at hbad
theorem qaV (t : List Ent) (c : Chg) (v : Int) (hl : t.length ≤ 400000) (hk : c.kind = 3) (hgt : ∀ x, x ∈ t → qC x.path = 0) (hc1 : qC c.path = 0) (hc2 : qC c.to = 0) (hbad : yC t c = false) (hs : qr j5 t = true) :
    ql C1.P 175 [.os 0 0 t.length, .agg c.row, .v (.int .i64 v)] [.own false 4 (t.map Ent.row)] (Z5 (j9 t c v) (jl t c v).length) [.dead, .own false 4 ((jl t c v).map Ent.row)] := by
  have l1 := jj hc1
  have l2 := jj hc2
  have hnb : ∀ x, x ∈ t → inB x.path c.path = true → yl (c.to ++ x.path.drop c.path.length) = false := fun x hx hi => by
    simp only [yC, hk, decide_true, Bool.true_and, List.any_eq_false] at hbad
    simpa using hbad x (List.mem_filter.2 ⟨hx, hi⟩)
  have hwo := ZM t c.path (by omega) (by omega)
  have hD : jl t c v = (jr t c v).foldl yJ (jR (zg c.path) t) := by simp [jl, hk]
  have hE : j9 t c v = if 60 < (jl t c v).length then 2 else 0 := by simp [j9, hbad]
  have hkl : (jR (zg c.path) t).length ≤ t.length := List.length_filter_le ..
  have hkr := zq (p := zg c.path) hs
  have hml : (t.map Ent.row).length = t.length := List.length_map ..
  refine qa (C := C1) Tryz.func175 rfl _ Tryz.ntmps175 (Nat.le_of_ble_eq_true rfl) _ Tryz.results175 1 rfl rfl ?_
  repeat' (first | refine qe ?_ | fail | ((first | refine qc ?_ ?_ | refine qb ?_ ?_ | refine xsC ?_ ?_); all_goals (intro hc; have hp := hc; try simp at hp; try (exfalso; omega))) | refine qw ?_ ?_)
  all_goals try (exfalso; omega)
  refine Awp.red (C := C1) (vw 8 4 rfl (Nat.le_of_ble_eq_true rfl)) ?_
  (refine Awp.red (jq (τ := ⟨[(0, .os 0 0 t.length), (2, .v (.int .i64 v)), (4, .op 1 0 0), (8, .os 2 0 0), (43, .os 0 0 t.length), (44, .v (.int .i64 t.length)), (45, .v (.int .i64 ((0 : Nat) : Int)))], [(0, .own false 4 (t.map Ent.row)), (1, .own false 5 [c.row]), (2, .own false 4 [])], 3⟩) [(1, 1), (2, 2)] rfl ?gts ?ghs) ?gmain; (case gts => (repeat (first | exact qd | refine qi ?_ | refine xM ?_ | refine vc ?_ | refine qR ?_ ?_))); (case ghs => (repeat (first | exact qg | refine jQ ?_ | refine qM ?_ ?_))))
  refine qu (C := C1) (fun n σ => ∃ i : Nat, i ≤ t.length ∧ n = t.length - i ∧ True ∧ σ = ⟨[(0, .os 0 0 t.length), (2, .v (.int .i64 v)), (4, .op 1 0 0), (8, .os 2 0 (jr (t.take i) c v).length), (43, .os 0 0 t.length), (44, .v (.int .i64 t.length)), (45, .v (.int .i64 (i : Int)))], [(0, .own false 4 (t.map Ent.row)), (1, .own false 5 [c.row]), (2, .own false 4 ((jr (t.take i) c v).map Ent.row))], 3⟩) t.length ⟨0, Nat.zero_le _, rfl, trivial, rfl⟩ ?_
  rintro n σ ⟨i, hi, rfl, -, rfl⟩
  have hgl : (jr (t.take i) c v).length ≤ i := by
    unfold jr
    rw [List.length_map]
    have h1 : ((t.take i).filter (zg c.path)).length ≤ (t.take i).length := List.length_filter_le ..
    simp at h1; omega
  by_cases hlt : i < t.length
  · have hr := qF (f := Ent.row) hlt
    have hpx := hgt t[i] (List.getElem_mem _)
    have lx := jj hpx
    have hin := qcM t[i].path c.path (by omega)
    have hgs := @YW t c v i hlt
    have hmv := qb0 t[i].path c.path c.to (by omega) (by omega) (by omega)
    have hme := @QG t[i].path c.path c.to hpx hc1 hc2
    have hnb1 := hnb t[i] (List.getElem_mem _)
    have hmt : ∀ w, (if t[i].path = c.path then v else t[i].ver) = w → (yD c v t[i]).row = [.v (str (c.to ++ t[i].path.drop c.path.length)), .v (.bool t[i].fold), .v (str t[i].text), .v (.int .i64 w)] := fun w hw => by simp [yD, Ent.row, hw]
    generalize hG : jr (t.take i) c v = G at hgl hgs ⊢
    generalize inB t[i].path c.path = I at *
    cases I with
    | false =>
      rw [if_neg (by decide)] at hgs
      repeat' (first | refine qe ?_ | (first | (refine vk ?_) | (refine jZ ?_) | (refine xw ?_) | refine xsF Tryz.func186 (hin ..) ?_ | refine xsQ Tryz.func191 (hmv ..) ?_) | ((first | refine qc ?_ ?_ | refine qb ?_ ?_ | refine xsC ?_ ?_); all_goals (intro hc; have hp := hc; try simp at hp; try (exfalso; omega))) | refine qw ?_ ?_)
      all_goals try (exfalso; omega)
      refine ⟨t.length - (i + 1), _, by omega, jq (τ := ⟨[(0, .os 0 0 t.length), (2, .v (.int .i64 v)), (4, .op 1 0 0), (8, .os 2 0 (jr (t.take (i + 1)) c v).length), (43, .os 0 0 t.length), (44, .v (.int .i64 t.length)), (45, .v (.int .i64 ((i + 1 : Nat) : Int)))], [(0, .own false 4 (t.map Ent.row)), (1, .own false 5 [c.row]), (2, .own false 4 ((jr (t.take (i + 1)) c v).map Ent.row))], 3⟩) [(1, 1), (2, 2)] rfl ?gts ?ghs, i + 1, by omega, rfl, trivial, rfl⟩; (case gts => (repeat (first | exact qd | refine qi ?_ | refine xM ?_ | refine vc ?_ | refine qR ?_ ?_)); all_goals (rw [hgs])); (case ghs => (repeat (first | exact qg | refine jQ ?_ | refine qM ?_ ?_)); all_goals (rw [hgs]))
    | true =>
      have hme2 := hme rfl
      clear hme
      rw [if_pos rfl] at hgs
      have hlen1 : (jr (t.take (i + 1)) c v).length = G.length + 1 := by rw [hgs]; simp
      generalize c.to ++ t[i].path.drop c.path.length = Q at *
      generalize ve t[i].path c.path c.to = E at *
      have hq : yl Q = false := hnb1 rfl
      rw [hq, if_neg (by decide)] at hme2
      subst hme2
      repeat' (first | refine qe ?_ | (first | (refine vk ?_) | (refine jZ ?_) | (refine xw ?_) | refine xsF Tryz.func186 (hin ..) ?_ | refine xsQ Tryz.func191 (hmv ..) ?_) | ((first | refine qc ?_ ?_ | refine qb ?_ ?_ | refine xsC ?_ ?_); all_goals (intro hc; have hp := hc; try simp at hp; try (exfalso; omega))) | refine qw ?_ ?_)
      all_goals try (exfalso; omega)
      · have hrow := hmt v (if_pos (by assumption))
        clear hmt hin hmv hgt hpx lx hr hq hnb hnb1 hwo hE hD
        refine ⟨t.length - (i + 1), _, by omega, jq (τ := ⟨[(0, .os 0 0 t.length), (2, .v (.int .i64 v)), (4, .op 1 0 0), (8, .os 2 0 (jr (t.take (i + 1)) c v).length), (43, .os 0 0 t.length), (44, .v (.int .i64 t.length)), (45, .v (.int .i64 ((i + 1 : Nat) : Int)))], [(0, .own false 4 (t.map Ent.row)), (1, .own false 5 [c.row]), (2, .own false 4 ((jr (t.take (i + 1)) c v).map Ent.row))], 3⟩) [(1, 1), (4, 2)] rfl ?gts ?ghs, i + 1, by omega, rfl, trivial, rfl⟩; (case gts => (repeat (first | exact qd | refine qi ?_ | refine xM ?_ | refine vc ?_ | refine qR ?_ ?_)); all_goals (first | (rw [hlen1]; done) | (rw [hgs, List.map_append, List.take_of_length_le (by simp)]; show _ = _ ++ [(yD c v t[i]).row]; rw [hrow]; rfl))); (case ghs => (repeat (first | exact qg | refine jQ ?_ | refine qM ?_ ?_)); all_goals (first | (rw [hlen1]; done) | (rw [hgs, List.map_append, List.take_of_length_le (by simp)]; show _ = _ ++ [(yD c v t[i]).row]; rw [hrow]; rfl)))
      · have hrow := hmt t[i].ver (if_neg (by assumption))
        clear hmt hin hmv hgt hpx lx hr hq hnb hnb1 hwo hE hD
        refine ⟨t.length - (i + 1), _, by omega, jq (τ := ⟨[(0, .os 0 0 t.length), (2, .v (.int .i64 v)), (4, .op 1 0 0), (8, .os 2 0 (jr (t.take (i + 1)) c v).length), (43, .os 0 0 t.length), (44, .v (.int .i64 t.length)), (45, .v (.int .i64 ((i + 1 : Nat) : Int)))], [(0, .own false 4 (t.map Ent.row)), (1, .own false 5 [c.row]), (2, .own false 4 ((jr (t.take (i + 1)) c v).map Ent.row))], 3⟩) [(1, 1), (4, 2)] rfl ?gts ?ghs, i + 1, by omega, rfl, trivial, rfl⟩; (case gts => (repeat (first | exact qd | refine qi ?_ | refine xM ?_ | refine vc ?_ | refine qR ?_ ?_)); all_goals (first | (rw [hlen1]; done) | (rw [hgs, List.map_append, List.take_of_length_le (by simp)]; show _ = _ ++ [(yD c v t[i]).row]; rw [hrow]; rfl))); (case ghs => (repeat (first | exact qg | refine jQ ?_ | refine qM ?_ ?_)); all_goals (first | (rw [hlen1]; done) | (rw [hgs, List.map_append, List.take_of_length_le (by simp)]; show _ = _ ++ [(yD c v t[i]).row]; rw [hrow]; rfl)))
  obtain rfl : i = t.length := by omega
  have hgl2 : (jr t c v).length ≤ t.length := by rw [List.take_length] at hgl; exact hgl
  rw [List.take_length]
  generalize hK : jR (zg c.path) t = K at *
  generalize hGo : jr t c v = G at *
  generalize j9 t c v = E at *
  clear hnb hgl
  repeat' (first | refine qe ?_ | (first | (apply qH Tryz.func190 rfl rfl; intro hIsFn; refine wD ([0]) 0 hIsFn (hwo ..) ?_)) | ((first | refine qc ?_ ?_ | refine qb ?_ ?_ | refine xsC ?_ ?_); all_goals (intro hc; have hp := hc; try simp at hp; try (exfalso; omega))) | refine qw ?_ ?_)
  all_goals try (exfalso; omega)
  refine Awp.red (C := C1) (WZ 0 0 K.length rfl rfl (List.take_of_length_le (by simp)) (Nat.ne_of_beq_eq_false rfl) (Nat.le_of_ble_eq_true rfl)) ?_
  (refine Awp.red (jq (τ := ⟨[(0, .os 2 0 ((G.take 0).foldl yJ K).length), (86, .os 1 0 G.length), (87, .v (.int .i64 G.length)), (88, .v (.int .i64 ((0 : Nat) : Int)))], [(1, .own false 4 (G.map Ent.row)), (2, .own false 4 (((G.take 0).foldl yJ K).map Ent.row))], 3⟩) [(2, 1), (3, 2)] rfl ?gts2 ?ghs2) ?gmain2; (case gts2 => (repeat (first | exact qd | refine qi ?_ | refine xM ?_ | refine vc ?_ | refine qR ?_ ?_)); all_goals skip); (case ghs2 => (repeat (first | exact qg | refine jQ ?_ | refine qM ?_ ?_))))
  refine qu (C := C1) (fun n σ => ∃ i : Nat, i ≤ G.length ∧ n = G.length - i ∧ True ∧ σ = ⟨[(0, .os 2 0 ((G.take i).foldl yJ K).length), (86, .os 1 0 G.length), (87, .v (.int .i64 G.length)), (88, .v (.int .i64 (i : Int)))], [(1, .own false 4 (G.map Ent.row)), (2, .own false 4 (((G.take i).foldl yJ K).map Ent.row))], 3⟩) G.length ⟨0, Nat.zero_le _, rfl, trivial, rfl⟩ ?_
  rintro n σ ⟨i, hi, rfl, -, rfl⟩
  have hLr := zQ (l := G.take i) hkr
  have hLl := Qp (G.take i) K
  have hLs := fun h => @Ww G K i h
  have htl : (G.take i).length ≤ G.length := by simp; omega
  by_cases hlt : i < G.length
  · have hr := qF (f := Ent.row) hlt
    have hLs := hLs hlt
    generalize (G.take i).foldl yJ K = L at *
    have hput := qdK L G[i] (by omega) hLr
    rw [← hLs] at hput
    repeat' (first | refine qe ?_ | (first | (refine vk ?_) | (apply qH Tryz.func189 rfl rfl; intro hIsFn; refine vN ([2]) 2 hIsFn (hput ..) ?_)) | ((first | refine qc ?_ ?_ | refine qb ?_ ?_ | refine xsC ?_ ?_); all_goals (intro hc; have hp := hc; try simp at hp; try (exfalso; omega))) | refine qw ?_ ?_)
    all_goals try (exfalso; omega)
    clear hLr hLl hput hr hwo hE hD hkr
    refine ⟨G.length - (i + 1), _, by omega, jq (τ := ⟨[(0, .os 2 0 ((G.take (i + 1)).foldl yJ K).length), (86, .os 1 0 G.length), (87, .v (.int .i64 G.length)), (88, .v (.int .i64 ((i + 1 : Nat) : Int)))], [(1, .own false 4 (G.map Ent.row)), (2, .own false 4 (((G.take (i + 1)).foldl yJ K).map Ent.row))], 3⟩) [(1, 1), (4, 2)] rfl ?gts ?ghs, i + 1, by omega, rfl, trivial, rfl⟩; (case gts => (repeat (first | exact qd | refine qi ?_ | refine xM ?_ | refine vc ?_ | refine qR ?_ ?_))); (case ghs => (repeat (first | exact qg | refine jQ ?_ | refine qM ?_ ?_)))
  obtain rfl : i = G.length := by omega
  rw [List.take_length] at *
  rw [← hD] at *
  generalize jl t c v = L at *
  by_cases h60 : 60 < L.length
  · rw [if_pos h60] at hE
    subst hE
    repeat' (first | refine qe ?_ | fail | ((first | refine qc ?_ ?_ | refine qb ?_ ?_ | refine xsC ?_ ?_); all_goals (intro hc; have hp := hc; try simp at hp; try (exfalso; omega))) | refine qw ?_ ?_)
    all_goals try (exfalso; omega)
    (refine w8 (rs := [.tmp 6, .tmp 7]) [(2, 1)] 2 ?_; (apply j4 0; exact jh rfl; (repeat (first | exact qg | refine jQ ?_ | refine qM ?_ ?_))); all_goals trace_state)
  · rw [if_neg h60] at hE
    subst hE
    repeat' (first | refine qe ?_ | fail | ((first | refine qc ?_ ?_ | refine qb ?_ ?_ | refine xsC ?_ ?_); all_goals (intro hc; have hp := hc; try simp at hp; try (exfalso; omega))) | refine qw ?_ ?_)
    all_goals try (exfalso; omega)
    (refine w8 (rs := [.tmp 6, .tmp 7]) [(2, 1)] 2 ?_; (apply j4 0; exact jh rfl; (repeat (first | exact qg | refine jQ ?_ | refine qM ?_ ?_))); all_goals trace_state)
end Go.Proofs.YtiljlcgmcmjcoaaGreatDoor
set_option linter.unusedSimpArgs false
set_option linter.unnecessarySimpa false
namespace Go.Proofs.YtiljlcgmcmjcoaaGreatDoor
theorem qbp {s : qB} : qo s = true ↔ s ≠ [] ∧ s.length ≤ 20 ∧ s ≠ [46] ∧ s ≠ [46, 46] ∧ s.head? ≠ some 32 ∧ s.getLast? ≠ some 32 ∧ ∀ c, c ∈ s → Kh c = true := by
  simp [qo, and_assoc]
theorem WU {s : qB} (h : qo s = true) : (47 : UInt8) ∉ s := fun hm => by
  have := (qbp.1 h).2.2.2.2.2.2 47 hm
  exact absurd this (by decide)
theorem qbW : qo [] = false := by simp [qo]
theorem kr {p : qB} : qC p = 0 ↔ (∀ n, n ∈ qk p → qo n = true) ∧ yl p = false := by
  unfold qC
  constructor
  · intro h
    split at h
    · rename_i h1
      split at h
      · exact absurd h (by decide)
      · rename_i h2
        exact ⟨List.all_eq_true.1 h1, by simpa using h2⟩
    · exact absurd h (by decide)
  · rintro ⟨h1, h2⟩
    rw [if_pos (List.all_eq_true.2 h1), h2]; rfl
theorem ZJ {a b : qB} (h : (47 : UInt8) ∉ b) : qL (a ++ 47 :: b) = a ∧ xt (a ++ 47 :: b) = b := by
  rw [qL, xt, kU h]
  refine ⟨by rw [show (a.length : Int).toNat = a.length from by omega, List.take_left], ?_⟩
  rw [show ((a.length : Int) + 1).toNat = a.length + 1 from by omega, List.drop_append, List.drop_of_length_le (by omega), List.nil_append, show a.length + 1 - a.length = 1 from by omega]; rfl
theorem yV {p : qB} {l : List qB} : yA (p :: l) = 0 ↔ qC p = 0 ∧ yA l = 0 := by
  show (if qC p = 0 then yA l else qC p) = 0 ↔ _
  split
  · rename_i h; simp [h]
  · rename_i h; simp [h]
theorem qbQ {p f t : qB} (h : ve p f t = 0) :
    ve (t ++ p.drop f.length) t f = 0 ∧ yA [t ++ p.drop f.length, t] = 0 ∧ inB (t ++ p.drop f.length) t = true ∧ f ++ (t ++ p.drop f.length).drop t.length = p := by
  unfold ve at h
  split at h
  case isFalse h' => exact absurd h h'
  rename_i h0
  split at h
  case isFalse => exact absurd h (by decide)
  rename_i hi
  split at h
  case isTrue => exact absurd h (by decide)
  rename_i hg
  obtain ⟨hp, h1⟩ := yV.1 h0
  obtain ⟨hf, h2⟩ := yV.1 h1
  obtain ⟨ht, -⟩ := yV.1 h2
  obtain ⟨np, gp⟩ := kr.1 hp
  obtain ⟨nt, -⟩ := kr.1 ht
  have hr := ZD (t := t) hi
  have hall : ∀ n, n ∈ qk t ++ (qk p).drop (qk f).length → qo n = true := fun n hm => by
    rcases List.mem_append.1 hm with hm | hm
    · exact nt n hm
    · exact np n (List.mem_of_mem_drop hm)
  have hnm : qk (t ++ p.drop f.length) = qk t ++ (qk p).drop (qk f).length := by
    rw [← hr]
    exact JN (by simp [xp]) fun n hm => WU (hall n hm)
  have hm : qC (t ++ p.drop f.length) = 0 := kr.2 ⟨by rw [hnm]; exact hall, by simpa using hg⟩
  have hb : inB (t ++ p.drop f.length) t = true := by
    rw [X0, hnm, List.isPrefixOf_iff_prefix]; exact List.prefix_append ..
  have hpre : f ++ p.drop f.length = p := by
    simp only [inB, Bool.or_eq_true, decide_eq_true_eq, List.isPrefixOf_iff_prefix] at hi
    rcases hi with rfl | ⟨s, rfl⟩
    · simp
    · rw [List.append_assoc, List.drop_left]
  have hback : f ++ (t ++ p.drop f.length).drop t.length = p := by rw [List.drop_left]; exact hpre
  refine ⟨?_, ?_, hb, hback⟩
  · unfold ve
    rw [if_pos (yV.2 ⟨hm, yV.2 ⟨ht, yV.2 ⟨hf, rfl⟩⟩⟩), if_pos hb, hback, gp]; rfl
  · exact yV.2 ⟨hm, yV.2 ⟨ht, rfl⟩⟩
end Go.Proofs.YtiljlcgmcmjcoaaGreatDoor
