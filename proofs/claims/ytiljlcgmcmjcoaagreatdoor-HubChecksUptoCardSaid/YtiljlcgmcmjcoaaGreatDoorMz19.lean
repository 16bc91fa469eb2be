import Derived.Test.YtiljlcgmcmjcoaaGreatDoorMz18
set_option linter.unusedSimpArgs false
set_option maxHeartbeats 1000000
namespace Go.Proofs.YtiljlcgmcmjcoaaGreatDoor
open Go.Ab Go.RowKit
set_option maxRecDepth 10000
attribute [local irreducible] Awp jV q9 qJ Red qy Go.Ab.Fin ql Rz yQ qA qG ResOk jC q6 jH qT
def yL (L : List Gra) (f : qB) : Int := if L.any (kn f) then (if 60 < L.length then 2 else 0) else 4
def wi (L : List Gra) (f : qB) : List Gra := if yL L f = 0 then L else []
theorem qf0 {L : List Gra} {f : qB} (h : ∀ x, x ∈ L → kn f x = false) : yL L f = 4 ∧ wi L f = [] := by
  have h1 : L.any (kn f) = false := List.any_eq_false.2 fun x hx => by rw [h x hx]; simp
  have h2 : yL L f = 4 := by simp [yL, h1]
  exact ⟨h2, by simp [wi, h2]⟩
theorem qgu {L : List Gra} {f : qB} (h : ∃ x, x ∈ L ∧ kn f x = true) (hl : (60 : Int) < (L.length : Int)) : yL L f = 2 ∧ wi L f = [] := by
  have h1 : L.any (kn f) = true := List.any_eq_true.2 h
  have h3 : 60 < L.length := by omega
  have h2 : yL L f = 2 := by simp [yL, h1, h3]
  exact ⟨h2, by simp [wi, h2]⟩
theorem qfU {L : List Gra} {f : qB} (h : ∃ x, x ∈ L ∧ kn f x = true) (hl : (L.length : Int) ≤ 60) : yL L f = 0 ∧ wi L f = L := by
  have h1 : L.any (kn f) = true := List.any_eq_true.2 h
  have h3 : ¬ 60 < L.length := by omega
  have h2 : yL L f = 0 := by simp [yL, h1, h3]
  exact ⟨h2, by simp [wi, h2]⟩
theorem qdi (l : List Gra) (hl : GBig l) (f b w : qB) (r : Int) (hf : f.length ≤ 140737488355328) (hb : b.length ≤ 140737488355328) (hw : w.length ≤ 140737488355328) (he : jO l f b w r = 0) (L : List Gra) (hL : L.length ≤ 1000000)
    (hset : ql C.P 104 [jD l, .v (str f), .v (str w), .v (.int .i64 r)] [] (.os 0 0 L.length) [.own false 3 (L.map Gra.row)]) :
    jY C.P 61 [jD l, .v (str f), .v (str b), .v (str w), .v (.int .i64 r)] (.tup [jD (wi L f), .v (.int .i64 (yL L f))]) := by
  have hch := QH l hl
  obtain ⟨h0, hn, hr, ho, hw0⟩ := qbq he
  rw [h0] at hch
  have hlen := vo h0
  have hri := z2 h0
  have hnm := Ym [f, b, w] (by simp) (by simp; exact ⟨hf, hb, hw⟩)
  simp only [List.map, List.all_cons, List.all_nil, Bool.and_true, hn.1, hn.2.1, hn.2.2, Bool.and_self] at hnm
  have ho1 := qd0 l f b (by omega) hri
  have ho2 := qd0 l f w (by omega) hri
  have hcon := Q1 (kn f) 105 (jG Tryz.func105 rfl rfl) [.fp [[.v (str f)]] 0 0] rfl L hL (fun g _ => qfB g f)
  refine qa Tryz.func61 rfl _ Tryz.ntmps61 (Nat.le_of_ble_eq_true rfl) _ Tryz.results61 0 rfl rfl ?_
  (repeat apply j0); apply jm; (repeat' (first | apply jL | refine zc ?_ | refine zd ?_ | refine zi ?_ | refine za ?_ | refine Qa ?_ | refine ze ?_ | refine wj ?_ | refine QL ?_ | refine zl ?_ | (first | fail) | refine xl ?_ | refine x7 ?_ | refine xX ?_ | refine xb ?_ | refine y9 ?_ | refine zn ?_ | refine zr ?_ | refine x3 ?_ | refine x6 ?_ | ((first | refine qc ?_ ?_ | refine qb ?_ ?_); all_goals (intro hc; have hp := hc; try simp at hp; try (exfalso; omega))))); show Awp _ _ _ _ _
  refine kf 6 0 ?_
  repeat' (first | refine qe ?_ | (first | refine xsF Tryz.func39 (hch ..) ?_ | refine xsQ Tryz.func62 (hnm ..) ?_ | (refine jZ ?_) | refine xsF Tryz.func63 (ho1 ..) ?_ | refine xsF Tryz.func63 (ho2 ..) ?_ | (apply qH Tryz.func104 rfl rfl; intro hIsFn; refine j6 ([]) hIsFn (hset ..) ?_) | (apply qj; apply yd ([1]); exact jG Tryz.func102 rfl rfl; exact hcon; (case hz => exact qm (ya rfl (by simp) (js fun _ => rfl)) (qm (xh rfl) qZ)); (case hfl => rfl); (case hN => exact nle rfl))) | ((first | refine qc ?_ ?_ | refine qb ?_ ?_ | refine xsC ?_ ?_); all_goals (intro hc; have hp := hc; try simp at hp; try (exfalso; omega))) | refine qw ?_ ?_)
  all_goals try (exfalso; omega)
  all_goals try (exfalso; rcases ho with h | ⟨h, _⟩ <;> contradiction)
  all_goals first
    | (refine (fun (h : yL L f = 4 ∧ wi L f = []) => ?_) (qf0 (L := L) (f := f) ?_); rotate_left; assumption
       rw [h.1, h.2]
       (exact yv (rs := [.tmp 10, .tmp 11])))
    | (refine (fun (h : yL L f = 2 ∧ wi L f = []) => ?_) (qgu (L := L) (f := f) ?_ ?_); rotate_left; assumption; assumption
       rw [h.1, h.2]
       (exact yv (rs := [.tmp 10, .tmp 11])))
    | (refine (fun (h : yL L f = 0 ∧ wi L f = L) => ?_) (qfU (L := L) (f := f) ?_ ?_); rotate_left; assumption; assumption
       rw [h.1, h.2]
       (exact yv (rs := [.tmp 10, .tmp 11])))
end Go.Proofs.YtiljlcgmcmjcoaaGreatDoor
set_option linter.unusedSimpArgs false
set_option maxHeartbeats 1000000
namespace Go.Proofs.YtiljlcgmcmjcoaaGreatDoor
open Go.Ab Go.RowKit
set_option maxRecDepth 10000
attribute [local irreducible] Awp jV q9 qJ Red qy Go.Ab.Fin ql Rz yQ qA qG ResOk jC q6 jH qT
def zf (l : List Gra) (f : qB) : List qB := (l.filter (xI f)).map (·.who)
@[simp] theorem qg2 (f : qB) : zf [] f = [] := rfl
theorem qeQ {l : List Gra} {f : qB} {k : Nat} (hk : k < l.length) (h : l[k].folder = f) : zf (l.take (k + 1)) f = zf (l.take k) f ++ [l[k].who] := by
  rw [zf, V3 hk (by simp [xI, h]), List.map_append]; rfl
theorem qcR {l : List Gra} {f : qB} {k : Nat} (hk : k < l.length) (h : ¬ l[k].folder = f) : zf (l.take (k + 1)) f = zf (l.take k) f := by
  rw [zf, Q0 hk (by simp [xI, h])]; rfl
theorem qdO (l : List Gra) (f : qB) : (zf l f).length ≤ l.length := by
  rw [zf, List.length_map]; exact List.length_filter_le _ _
theorem qfQ (l : List Gra) (f : qB) (hl : l.length ≤ 1000000) : jY C.P 43 [jD l, .v (str f)] (.sl false ((zf l f).map ji)) := by
  refine qa Tryz.func43 rfl _ Tryz.ntmps43 (Nat.le_of_ble_eq_true rfl) _ Tryz.results43 0 rfl rfl ?_
  repeat' (first | refine qe ?_ | fail | ((first | refine xsC ?_ ?_); all_goals (intro hc; have hp := hc; try simp at hp; try (exfalso; omega))) | refine qw ?_ ?_)
  refine Awp.red (vw 5 1 rfl (Nat.zero_le _)) ?_
  (refine Awp.red (jq (τ := ⟨[(0, jD l), (1, .v (str f)), (5, .os 0 0 (zf (l.take 0) f).length), (6, .v (.int .i64 ((0 : Nat) : Int)))], [(0, .own false 1 ((zf (l.take 0) f).map ji))], 1⟩) [(0, 0)] rfl ?gts ?ghs) ?gmain; (case gts => (repeat (first | exact qd | refine qi ?_ | refine xM ?_ | refine vc ?_ | refine qR ?_ ?_))); (case ghs => (repeat (first | exact qg | refine jQ ?_ | refine qM ?_ ?_))))
  refine qu (fun n σ => ∃ i : Nat, i ≤ l.length ∧ n = l.length - i ∧ (True) ∧ σ = ⟨[(0, jD l), (1, .v (str f)), (5, .os 0 0 (zf (l.take i) f).length), (6, .v (.int .i64 (i : Int)))], [(0, .own false 1 ((zf (l.take i) f).map ji))], 1⟩) l.length ⟨0, Nat.zero_le _, rfl, trivial, rfl⟩ ?_
  rintro n σ ⟨i, hi, rfl, -, rfl⟩
  by_cases hlt : i < l.length
  · have hr := qF (f := Gra.row) hlt
    have hfl : (zf (l.take i) f).length ≤ 1000000 := by
      have := qdO (l.take i) f
      simp at this; omega
    repeat' (first | refine qe ?_ | (first | (refine jZ ?_) | (refine xw ?_)) | ((first | refine xsC ?_ ?_); all_goals (intro hc; have hp := hc; try simp at hp; try (exfalso; omega))) | refine qw ?_ ?_)
    all_goals try (exfalso; omega)
    · have hk : zf (l.take (i + 1)) f = zf (l.take i) f ++ [l[i].who] := qeQ (f := f) hlt (by assumption)
      have hk2 : List.take (zf (l.take i) f).length ((zf (l.take i) f).map ji) ++ [cellsOf (AV.v (str l[i].who))] = (zf (l.take (i + 1)) f).map ji := by rw [hk, List.map_append, List.take_of_length_le (by simp)]; rfl
      refine ⟨l.length - (i + 1), _, by omega, jq (τ := ⟨[(0, jD l), (1, .v (str f)), (5, .os 0 0 (zf (l.take (i + 1)) f).length), (6, .v (.int .i64 ((i + 1 : Nat) : Int)))], [(0, .own false 1 ((zf (l.take (i + 1)) f).map ji))], 1⟩) [(1, 0)] rfl ?gts ?ghs, i + 1, by omega, rfl, trivial, rfl⟩; (case gts => (repeat (first | exact qd | refine qi ?_ | refine xM ?_ | refine qdZ ?_ | refine qd8 ?_ ?_ | refine qR ?_ ?_)); all_goals (first | exact hk2 | rfl | (rw [hk, List.length_append]; done) | (rw [hk]; simp; done) | trace_state)); (case ghs => (repeat (first | exact qg | refine Q9 ?_ | refine qM ?_ ?_)); all_goals (first | exact hk2 | rfl | (rw [hk, List.length_append]; done) | (rw [hk]; simp; done) | trace_state))
    · have hk := qcR (f := f) hlt (by assumption)
      refine ⟨l.length - (i + 1), _, by omega, jq (τ := ⟨[(0, jD l), (1, .v (str f)), (5, .os 0 0 (zf (l.take (i + 1)) f).length), (6, .v (.int .i64 ((i + 1 : Nat) : Int)))], [(0, .own false 1 ((zf (l.take (i + 1)) f).map ji))], 1⟩) [(0, 0)] rfl ?gts ?ghs, i + 1, by omega, rfl, trivial, rfl⟩; (case gts => (repeat (first | exact qd | refine qi ?_ | refine xM ?_ | refine vc ?_ | refine qR ?_ ?_))); (case ghs => (repeat (first | exact qg | refine jQ ?_ | refine qM ?_ ?_)))
  obtain rfl : i = l.length := by omega
  repeat' (first | refine qe ?_ | fail | ((first | refine xsC ?_ ?_); all_goals (intro hc; have hp := hc; try simp at hp; try (exfalso; omega))) | refine qw ?_ ?_)
  all_goals try (exfalso; omega)
  rw [List.take_length]
  (exact yv (rs := [.tmp 4]))
end Go.Proofs.YtiljlcgmcmjcoaaGreatDoor
set_option linter.unusedSimpArgs false
namespace Go.Proofs.YtiljlcgmcmjcoaaGreatDoor
open Go.Ab Go.RowKit
def xz (l : List Gra) (f w : qB) (r : Int) : List Gra :=
  l.take (xQ l ⟨f, w, 0⟩) ++ ((if r = 0 then [] else [⟨f, w, r⟩]) ++ l.drop (xQ l ⟨f, w, 0⟩ + if zh l ⟨f, w, 0⟩ = true then 1 else 0))
theorem xg {k x : Gra} : sameKey k x = true ↔ x.folder = k.folder ∧ x.who = k.who := by simp [sameKey]
theorem qbV {k x : Gra} (h : jv x k = true) : sameKey k x = false := by
  cases e : sameKey k x
  · rfl
  · have := (kI (c := x) (xg.1 e)).1
    rw [← this, YM] at h; cases h
theorem qa4 {k x : Gra} (h : jv k x = true) : sameKey k x = false := by
  cases e : sameKey k x
  · rfl
  · have := (kI (c := x) (xg.1 e)).2
    rw [← this, YM] at h; cases h
theorem qdy {a b : Gra} (h1 : jv a b = false) (h2 : sameKey b a = false) : jv b a = true := by
  by_cases h : zF a b = 0
  · have := (vU a b).1 h
    rw [xg.2 ⟨this.1, this.2⟩] at h2; cases h2
  · by_cases h' : zF a b < 0
    · rw [(kR a b).1 h'] at h1; cases h1
    · exact (qaM a b).1 (by omega)
theorem zj : ∀ {l : List Gra}, qr jv l = true ↔ l.Pairwise (fun a b => jv a b = true) := by
  intro l
  rw [List.pairwise_iff_getElem]
  constructor
  · intro h i j hi hj hij
    exact Jp h i j hi hj hij
  · intro h
    exact jT.2 fun k hk => h k (k + 1) (by omega) hk (by omega)
theorem V7 (k : Gra) : ∀ {l : List Gra}, l.Pairwise (fun a b => jv a b = true) → ∃ A M Z, l = A ++ (M ++ Z) ∧ xQ l k = A.length ∧ (∀ a, a ∈ A → jv a k = true) ∧ (∀ z, z ∈ Z → jv k z = true) ∧
    ((zh l k = true ∧ ∃ x, M = [x] ∧ sameKey k x = true) ∨ (zh l k = false ∧ M = []))
  | [], _ => ⟨[], [], [], rfl, rfl, nofun, nofun, .inr ⟨rfl, rfl⟩⟩
  | x :: l, h => by
    obtain ⟨h1, h2⟩ := List.pairwise_cons.1 h
    by_cases hx : jv x k = true
    · obtain ⟨A, M, Z, rfl, hp, hA, hZ, hM⟩ := V7 k h2
      have hp' : xQ (x :: (A ++ (M ++ Z))) k = A.length + 1 := by
        simp only [xQ, List.takeWhile_cons, hx, if_true, List.length_cons] at hp ⊢; omega
      refine ⟨x :: A, M, Z, rfl, hp', fun a ha => ?_, hZ, ?_⟩
      · rcases List.mem_cons.1 ha with rfl | ha
        · exact hx
        · exact hA a ha
      · have : zh (x :: (A ++ (M ++ Z))) k = zh (A ++ (M ++ Z)) k := by
          unfold zh
          rw [hp', hp, List.getElem?_cons_succ]
        rw [this]; exact hM
    · have hx : jv x k = false := by simpa using hx
      have hp : xQ (x :: l) k = 0 := by simp [xQ, List.takeWhile_cons, hx]
      have hh : zh (x :: l) k = decide (zF x k = 0) := by
        unfold zh; rw [hp]; rfl
      cases hk : sameKey k x with
      | true =>
        refine ⟨[], [x], l, rfl, hp, nofun, fun z hz => ?_, .inl ⟨?_, x, rfl, hk⟩⟩
        · rw [← (kI (c := z) (xg.1 hk)).2]; exact h1 z hz
        · rw [hh, decide_eq_true_iff, vU]; exact xg.1 hk
      | false =>
        have hg := qdy hx hk
        refine ⟨[], [], x :: l, rfl, hp, nofun, fun z hz => ?_, .inr ⟨?_, rfl⟩⟩
        · rcases List.mem_cons.1 hz with rfl | hz
          · exact hg
          · exact wA hg (h1 z hz)
        · rw [hh, decide_eq_false_iff_not, vU]
          intro e
          rw [xg.2 e] at hk; cases hk
theorem Qb {l A M Z : List Gra} {f w : qB} {r : Int} (h : l = A ++ (M ++ Z)) (hp : xQ l ⟨f, w, 0⟩ = A.length) (hM : (zh l ⟨f, w, 0⟩ = true ∧ ∃ x, M = [x] ∧ sameKey ⟨f, w, 0⟩ x = true) ∨ (zh l ⟨f, w, 0⟩ = false ∧ M = [])) :
    xz l f w r = A ++ ((if r = 0 then [] else [⟨f, w, r⟩]) ++ Z) := by
  unfold xz
  rw [hp]
  have h1 : l.take A.length = A := by rw [h]; simp
  rw [h1]
  rcases hM with ⟨hh, x, rfl, _⟩ | ⟨hh, rfl⟩
  · simp only [hh, if_true]; rw [h]; simp
  · simp only [hh, Bool.false_eq_true, if_false]; rw [h]; simp
theorem WT {l : List Gra} {f w : qB} {r : Int} (hs : qr jv l = true) : qr jv (xz l f w r) = true := by
  have hl := zj.1 hs
  obtain ⟨A, M, Z, h, hp, hA, hZ, hM⟩ := V7 ⟨f, w, 0⟩ hl
  rw [Qb h hp hM]
  refine zj.2 ?_
  have hsub : (A ++ Z).Sublist l := by
    rw [h]; exact List.Sublist.append_left (List.sublist_append_right _ _) _
  have hAZ := List.Pairwise.sublist hsub hl
  rw [List.pairwise_append] at hAZ
  have hkey : ∀ c, jv c ⟨f, w, r⟩ = jv c ⟨f, w, 0⟩ ∧ jv ⟨f, w, r⟩ c = jv ⟨f, w, 0⟩ c := fun c => kI ⟨rfl, rfl⟩
  by_cases h0 : r = 0
  · simp only [h0, if_true, List.nil_append]
    rw [List.pairwise_append]; exact hAZ
  · simp only [h0, if_false]
    rw [List.pairwise_append]
    refine ⟨hAZ.1, ?_, fun a ha b hb => ?_⟩
    · rw [List.cons_append, List.nil_append, List.pairwise_cons]
      exact ⟨fun z hz => by rw [(hkey z).2]; exact hZ z hz, hAZ.2.1⟩
    · rw [List.cons_append, List.nil_append, List.mem_cons] at hb
      rcases hb with rfl | hb
      · rw [(hkey a).1]; exact hA a ha
      · exact hAZ.2.2 a ha b hb
theorem qbk (A B : List Gra) (f w : qB) (hA : ∀ a, a ∈ A → sameKey ⟨f, w, 0⟩ a = false) : jS (A ++ B) f w = jS B f w := by
  have : A.find? (sameKey ⟨f, w, 0⟩) = none := List.find?_eq_none.2 fun a ha => by rw [hA a ha]; simp
  unfold jS
  rw [List.find?_append, this, Option.none_or]
theorem qai {A : List Gra} {f w : qB} (hA : ∀ a, a ∈ A → sameKey ⟨f, w, 0⟩ a = false) : jS A f w = 0 := by
  have : A.find? (sameKey ⟨f, w, 0⟩) = none := List.find?_eq_none.2 fun a ha => by rw [hA a ha]; simp
  unfold jS
  rw [this]
theorem qbJ {l : List Gra} {f w : qB} {r : Int} (hs : qr jv l = true) : jS (xz l f w r) f w = r := by
  obtain ⟨A, M, Z, h, hp, hA, hZ, hM⟩ := V7 ⟨f, w, 0⟩ (zj.1 hs)
  rw [Qb h hp hM, qbk _ _ _ _ fun a ha => qbV (hA a ha)]
  by_cases h0 : r = 0
  · simp only [h0, if_true, List.nil_append]
    exact qai fun z hz => qa4 (hZ z hz)
  · simp [h0, jS, sameKey]
theorem QR {l : List Gra} {f w : qB} {r : Int} (hs : qr jv l = true) {x : Gra} (hx : x ∈ xz l f w r) : x ∈ l ∨ (r ≠ 0 ∧ x = ⟨f, w, r⟩) := by
  obtain ⟨A, M, Z, h, hp, hA, hZ, hM⟩ := V7 ⟨f, w, 0⟩ (zj.1 hs)
  rw [Qb h hp hM] at hx
  rw [h]
  by_cases h0 : r = 0
  · simp only [h0, if_true, List.nil_append, List.mem_append] at hx ⊢
    rcases hx with hx | hx
    · exact .inl (.inl hx)
    · exact .inl (.inr (.inr hx))
  · simp only [h0, if_false, List.mem_append, List.mem_singleton, List.mem_cons, List.not_mem_nil, or_false] at hx ⊢
    rcases hx with hx | hx | hx
    · exact .inl (.inl hx)
    · exact .inr ⟨h0, hx⟩
    · exact .inl (.inr (.inr hx))
theorem Wh {l : List Gra} {f w : qB} {r : Int} (hs : qr jv l = true) {x : Gra} (hx : x ∈ l) (hk : sameKey ⟨f, w, 0⟩ x = false) : x ∈ xz l f w r := by
  obtain ⟨A, M, Z, h, hp, hA, hZ, hM⟩ := V7 ⟨f, w, 0⟩ (zj.1 hs)
  rw [Qb h hp hM]
  rw [h] at hx
  simp only [List.mem_append] at hx ⊢
  rcases hx with hx | hx | hx
  · exact .inl hx
  · rcases hM with ⟨_, y, rfl, hy⟩ | ⟨_, rfl⟩
    · rw [List.mem_singleton.1 hx, hy] at hk; cases hk
    · cases hx
  · exact .inr (.inr hx)
theorem Xg {f : qB} {x : Gra} : kn f x = true ↔ x.folder = f ∧ x.right = 3 := by simp [kn]
theorem qbP {l : List Gra} {f w : qB} {r : Int} (hs : qr jv l = true) (ho : wF l = true) (hf : (xz l f w r).any (kn f) = true) : wF (xz l f w r) = true := by
  refine List.all_eq_true.2 fun x hx => ?_
  by_cases e : x.folder = f
  · obtain ⟨y, hy, h1⟩ := List.any_eq_true.1 hf
    have h1 := Xg.1 h1
    exact List.any_eq_true.2 ⟨y, hy, by simp [h1.1, h1.2, e]⟩
  · rcases QR hs hx with h | ⟨_, rfl⟩
    · obtain ⟨y, hy, h1⟩ := List.any_eq_true.1 (List.all_eq_true.1 ho x h)
      simp only [Bool.and_eq_true, decide_eq_true_eq] at h1
      have hk : sameKey ⟨f, w, 0⟩ y = false := by
        cases e' : sameKey ⟨f, w, 0⟩ y
        · rfl
        · exact absurd (h1.1.symm.trans (xg.1 e').1) e
      exact List.any_eq_true.2 ⟨y, Wh hs hy hk, by simp [h1.1, h1.2]⟩
    · exact absurd rfl e
theorem Vz {l : List Gra} {f w : qB} {r : Int} : (xz l f w r).length ≤ l.length + 1 := by
  unfold xz
  have := qcy l ⟨f, w, 0⟩
  by_cases h0 : r = 0
  · simp [h0]; omega
  · simp [h0]; omega
theorem xF {l : List Gra} (h : jE l = 0) : l.length ≤ 60 ∧ (∀ x, x ∈ l → x9 x = 0) ∧ qr jv l = true ∧ wF l = true := by
  unfold jE at h
  split at h
  · omega
  · rename_i h60
    split at h
    · rename_i h1
      split at h
      · split at h
        · exact ⟨by omega, jz.1 h1, by assumption, by assumption⟩
        · omega
      · omega
    · exact absurd h (by assumption)
theorem qcI {l : List Gra} (h1 : l.length ≤ 60) (h2 : ∀ x, x ∈ l → x9 x = 0) (h3 : qr jv l = true) (h4 : wF l = true) : jE l = 0 := by
  unfold jE
  rw [if_neg (by omega), if_pos (jz.2 h2), if_pos h3, if_pos h4]
theorem Vd {l : List Gra} {f w : qB} {r : Int} (h : jE l = 0) (hf : qo f = true) (hw : qo w = true) (hr : 0 ≤ r ∧ r ≤ 3) (ho : (xz l f w r).any (kn f) = true) (hlen : (xz l f w r).length ≤ 60) : jE (xz l f w r) = 0 := by
  obtain ⟨h1, h2, h3, h4⟩ := xF h
  refine qcI hlen (fun x hx => ?_) (WT h3) (qbP h3 h4 ho)
  rcases QR h3 hx with h | ⟨h0, rfl⟩
  · exact h2 x h
  · exact YO ⟨hf, hw⟩ ⟨by show 1 ≤ r; omega, hr.2⟩
theorem qaE {l : List Gra} {f w : qB} {r : Int} (hl : GBig l) (hs : qr jv l = true) (hlen : l.length ≤ 1000000) (hf : f.length ≤ 140737488355328) (hw : w.length ≤ 140737488355328) : GBig (xz l f w r) := by
  refine ⟨fun x hx => ?_, by have := Vz (l := l) (f := f) (w := w) (r := r); omega⟩
  rcases QR hs hx with h | ⟨_, rfl⟩
  · exact hl.each x h
  · exact ⟨hf, hw⟩
end Go.Proofs.YtiljlcgmcmjcoaaGreatDoor
set_option linter.unusedSimpArgs false
set_option maxHeartbeats 1000000
namespace Go.Proofs.YtiljlcgmcmjcoaaGreatDoor
open Go.Ab Go.RowKit
set_option maxRecDepth 10000
attribute [local irreducible] Awp jV q9 qJ Red qy Go.Ab.Fin ql Rz yQ qA qG ResOk jC q6 jH qT
theorem qcQ {α : Type} (rs : List α) (i n : Nat) (hi : i < n) (hn : n ≤ rs.length) (z : α) :
    ((rs.take i ++ (rs.drop (i + 1)).take (n - (i + 1)) ++ rs.drop (i + (n - (i + 1)))).take (i + (n - (i + 1))) ++ List.replicate (n - (i + (n - (i + 1)))) z ++ (rs.take i ++ (rs.drop (i + 1)).take (n - (i + 1)) ++ rs.drop (i + (n - (i + 1)))).drop (i + (n - (i + 1)) + (n - (i + (n - (i + 1)))))).take (n - 1) =
      rs.take i ++ (rs.drop (i + 1)).take (n - (i + 1)) := by
  rw [List.append_assoc, List.take_append_of_le_length (by simp; omega), List.take_take, show min (n - 1) (i + (n - (i + 1))) = n - 1 from by omega, List.take_append_of_le_length (by simp; omega), List.take_of_length_le (by simp; omega)]
theorem qc4 (l : List Gra) (i : Nat) (hi : i < l.length) (hl : l.length ≤ 1000000) :
    ql C1.P 133 [.os 0 0 l.length, .v (.int .i64 (i : Int)), .v (.int .i64 ((i + 1 : Nat) : Int))] [.own false 3 (l.map Gra.row)] (.os 0 0 (l.length - 1)) [.own false 3 ((l.take i ++ l.drop (i + 1)).map Gra.row)] := by
  have hrc : (l.map Gra.row).all (fun row => row.length == 3 && row.all jP) = true := xG fun _ => rfl
  have hml : (l.map Gra.row).length = l.length := List.length_map ..
  refine qa (C := C1) Tryz.func133 rfl _ Tryz.ntmps133 (Nat.le_of_ble_eq_true rfl) _ Tryz.results133 1 rfl rfl ?_
  repeat' (first | refine qe ?_ | (first | (refine qfi ?_) | (refine Q7 ?_) | (refine qb5 ?_) | (apply zt; apply Yv; (case hx => rfl); (case hT => rfl); (case he => rfl); (case hE => rfl); (case hn => rfl); (case hsrc => apply w4; rfl; rfl; (show 0 + (i + 1) + (l.length - (i + 1)) ≤ (l.map Gra.row).length; omega); rfl; exact hrc); (case hfit => (first | omega | (simp; done) | (simp only [List.length_cons, List.length_nil, List.length_map]; omega) | (simp; omega))); (case hN => exact nle rfl))) | ((first | refine qc ?_ ?_ | refine qb ?_ ?_ | refine xsC ?_ ?_); all_goals (intro hc; have hp := hc; try simp at hp; try (exfalso; omega))) | refine qw ?_ ?_)
  all_goals try (exfalso; omega)
  have hL : (List.take (l.length - (i + 1)) (List.drop (i + 1) (l.map Gra.row))).length = l.length - (i + 1) := by simp
  apply qb3 (C := C1) 0 (l.length - 1)
  case hn => rfl
  case hr =>
    simp only [Nat.zero_add, Nat.sub_zero, hL]
    refine (qcQ (l.map Gra.row) i l.length hi (by omega) _).trans (?_ : _ = (l.take i ++ l.drop (i + 1)).map Gra.row)
    rw [List.map_append, List.map_take, List.map_drop, List.take_of_length_le (l := List.drop (i + 1) (l.map Gra.row)) (by simp)]
  (apply je (rs := [.tmp 6]) [] 1; (case hr => (repeat (first | exact qO | (apply qP; rfl) | (apply qE; rfl; rfl; rfl; rfl; rfl)))); (case hL => rfl); (case hh => (repeat (first | exact qg | refine jQ ?_ | refine qM ?_ ?_)); all_goals trace_state); (case hi => first | exact (rfl : _ = ([] : List (Nat × Nat))) | exact (rfl : _ = [((0 : Nat), (0 : Nat))]) | exact (rfl : _ = [((0 : Nat), (0 : Nat)), (1, 1)])); (case hz => first | rfl | (simp [jw, AV.ren, AV.ren.renL, qU, qp, qS]; done) | (simp [jw, AV.ren, AV.ren.renL, qU, qp, qS, *]; done) | (simp [jw, AV.ren, AV.ren.renL, qU, qp, qS]; omega)))
theorem qci {l : List Gra} {k : Gra} (h : zh l k = true) : xQ l k < l.length := by
  unfold zh at h
  split at h
  · rename_i x hx; exact (List.getElem?_eq_some_iff.1 hx).1
  · cases h
theorem qgj (l : List Gra) (f w : qB) (r : Int) (hl : l.length ≤ 1000000) (hs : qr jv l = true) (hr : r = 0 → zh l ⟨f, w, 0⟩ = true) :
    ql C.P 104 [jD l, .v (str f), .v (str w), .v (.int .i64 r)] [] (.os 0 0 (xz l f w r).length) [.own false 3 ((xz l f w r).map Gra.row)] := by
  have hfi := qbO l f w hl hs
  by_cases h0 : r = 0
  · have hh := hr h0
    have hp := qci hh
    have hL : xz l f w r = l.take (xQ l ⟨f, w, 0⟩) ++ l.drop (xQ l ⟨f, w, 0⟩ + 1) := by simp [xz, h0, hh]
    rw [hh] at hfi
    have hdel := qc4 l (xQ l ⟨f, w, 0⟩) hp hl
    generalize xz l f w r = L at hL ⊢
    generalize xQ l ⟨f, w, 0⟩ = p at hL hp hfi hdel
    have hlen : L.length = l.length - 1 := by rw [hL]; simp; omega
    subst h0
    refine qa Tryz.func104 rfl _ Tryz.ntmps104 (Nat.le_of_ble_eq_true rfl) _ Tryz.results104 0 rfl rfl ?_
    repeat' (first | refine qe ?_ | (first | (apply qH Tryz.func79 rfl rfl; intro hIsFn; refine j6 ([]) hIsFn (QQ l hl ..) ?_) | (apply qj; apply yd ([0]); exact jG Tryz.func108 rfl rfl; apply hfi; (case hz => (repeat' (first | exact qZ | apply qm | exact qQ rfl | exact yI | (apply ya; (case hn => rfl); (case hl => first | with_reducible rfl | (simp; done) | (simp [*]; done) | omega); (case hp => (first | assumption | exact yr rfl | exact js fun _ => rfl))) | apply yh | apply yc))); (case hfl => rfl); (case hN => exact nle rfl)) | (apply qH Tryz.func133 rfl rfl; intro hIsFn; refine wD ([0]) 0 hIsFn (hdel ..) ?_)) | ((first | refine xsC ?_ ?_); all_goals (intro hc; have hp := hc; try simp at hp; try (exfalso; omega))) | refine qw ?_ ?_)
    all_goals try (exfalso; omega)
    (apply je (rs := [.tmp 8]) [(0, 0)] 1; (case hr => (repeat (first | exact qO | (apply qP; rfl) | (apply qE; rfl; rfl; rfl; rfl; rfl)))); (case hL => rfl); (case hh => (repeat (first | exact qg | refine jQ ?_ | refine qM ?_ ?_)); all_goals (rw [hL])); (case hi => first | exact (rfl : _ = ([] : List (Nat × Nat))) | exact (rfl : _ = [((0 : Nat), (0 : Nat))]) | exact (rfl : _ = [((0 : Nat), (0 : Nat)), (1, 1)])); (case hz => first | rfl | (simp [jw, AV.ren, AV.ren.renL, qU, qp, qS]; done) | (simp [jw, AV.ren, AV.ren.renL, qU, qp, qS, *]; done) | (simp [jw, AV.ren, AV.ren.renL, qU, qp, qS]; omega)))
  · cases hh : zh l ⟨f, w, 0⟩ with
    | true =>
      have hp := qci hh
      have hL : xz l f w r = l.take (xQ l ⟨f, w, 0⟩) ++ ([⟨f, w, r⟩] ++ l.drop (xQ l ⟨f, w, 0⟩ + 1)) := by simp [xz, h0, hh]
      have hx : l[xQ l ⟨f, w, 0⟩].folder = f ∧ l[xQ l ⟨f, w, 0⟩].who = w := by
        unfold zh at hh
        rw [List.getElem?_eq_getElem hp] at hh
        simpa [vU] using hh
      rw [hh] at hfi
      generalize xz l f w r = L at hL ⊢
      generalize xQ l ⟨f, w, 0⟩ = p at hL hp hfi hx
      have hlen : L.length = l.length := by rw [hL]; simp; omega
      have hrow := qF (f := Gra.row) hp
      refine qa Tryz.func104 rfl _ Tryz.ntmps104 (Nat.le_of_ble_eq_true rfl) _ Tryz.results104 0 rfl rfl ?_
      repeat' (first | refine qe ?_ | (first | (apply qH Tryz.func79 rfl rfl; intro hIsFn; refine j6 ([]) hIsFn (QQ l hl ..) ?_) | (apply qj; apply yd ([0]); exact jG Tryz.func108 rfl rfl; apply hfi; (case hz => (repeat' (first | exact qZ | apply qm | exact qQ rfl | exact yI | (apply ya; (case hn => rfl); (case hl => first | with_reducible rfl | (simp; done) | (simp [*]; done) | omega); (case hp => (first | assumption | exact yr rfl | exact js fun _ => rfl))) | apply yh | apply yc))); (case hfl => rfl); (case hN => exact nle rfl)) | (refine vk ?_)) | ((first | refine xsC ?_ ?_); all_goals (intro hc; have hp := hc; try simp at hp; try (exfalso; omega))) | refine qw ?_ ?_)
      all_goals try (exfalso; omega)
      (apply je (rs := [.tmp 8]) [(0, 0)] 1; (case hr => (repeat (first | exact qO | (apply qP; rfl) | (apply qE; rfl; rfl; rfl; rfl; rfl)))); (case hL => rfl); (case hh => (repeat (first | exact qg | refine jQ ?_ | refine qM ?_ ?_)); all_goals (show (l.map Gra.row).set p (Gra.row ⟨l[p].folder, l[p].who, r⟩) = L.map Gra.row; rw [hx.1, hx.2, ← List.map_set, hL, List.set_eq_take_append_cons_drop, if_pos (by assumption)]; rfl)); (case hi => first | exact (rfl : _ = ([] : List (Nat × Nat))) | exact (rfl : _ = [((0 : Nat), (0 : Nat))]) | exact (rfl : _ = [((0 : Nat), (0 : Nat)), (1, 1)])); (case hz => first | rfl | (simp [jw, AV.ren, AV.ren.renL, qU, qp, qS]; done) | (simp [jw, AV.ren, AV.ren.renL, qU, qp, qS, *]; done) | (simp [jw, AV.ren, AV.ren.renL, qU, qp, qS]; omega)))
    | false =>
      by_cases hp : xQ l ⟨f, w, 0⟩ = l.length
      · have hL : xz l f w r = l ++ [⟨f, w, r⟩] := by simp [xz, h0, hh, hp]
        rw [hL, List.length_append]
        exact qek l f w r hl hs h0 hh hp
      · have hpl : xQ l ⟨f, w, 0⟩ < l.length := by have := qcy l ⟨f, w, 0⟩; omega
        have hL : xz l f w r = l.take (xQ l ⟨f, w, 0⟩) ++ ([⟨f, w, r⟩] ++ l.drop (xQ l ⟨f, w, 0⟩)) := by simp [xz, h0, hh]
        rw [hh] at hfi
        have hin := qaP l ⟨f, w, r⟩ (xQ l ⟨f, w, 0⟩) hpl hl
        generalize xz l f w r = L at hL ⊢
        generalize xQ l ⟨f, w, 0⟩ = p at hL hpl hfi hin
        have hlen : L.length = l.length + 1 := by rw [hL]; simp; omega
        refine qa Tryz.func104 rfl _ Tryz.ntmps104 (Nat.le_of_ble_eq_true rfl) _ Tryz.results104 0 rfl rfl ?_
        repeat' (first | refine qe ?_ | (first | (apply qH Tryz.func79 rfl rfl; intro hIsFn; refine j6 ([]) hIsFn (QQ l hl ..) ?_) | (apply qj; apply yd ([0]); exact jG Tryz.func108 rfl rfl; apply hfi; (case hz => (repeat' (first | exact qZ | apply qm | exact qQ rfl | exact yI | (apply ya; (case hn => rfl); (case hl => first | with_reducible rfl | (simp; done) | (simp [*]; done) | omega); (case hp => (first | assumption | exact yr rfl | exact js fun _ => rfl))) | apply yh | apply yc))); (case hfl => rfl); (case hN => exact nle rfl)) | (refine jZ ?_) | (apply qH Tryz.func134 rfl rfl; intro hIsFn; refine vN ([0]) 0 hIsFn (hin ..) ?_)) | ((first | refine xsC ?_ ?_); all_goals (intro hc; have hp := hc; try simp at hp; try (exfalso; omega))) | refine qw ?_ ?_)
        all_goals try (exfalso; omega)
        (apply je (rs := [.tmp 8]) [(1, 0)] 1; (case hr => (repeat (first | exact qO | (apply qP; rfl) | (apply qE; rfl; rfl; rfl; rfl; rfl)))); (case hL => rfl); (case hh => (repeat (first | exact qg | refine jQ ?_ | refine qM ?_ ?_)); all_goals (rw [hL])); (case hi => first | exact (rfl : _ = ([] : List (Nat × Nat))) | exact (rfl : _ = [((0 : Nat), (0 : Nat))]) | exact (rfl : _ = [((0 : Nat), (0 : Nat)), (1, 1)])); (case hz => first | rfl | (simp [jw, AV.ren, AV.ren.renL, qU, qp, qS]; done) | (simp [jw, AV.ren, AV.ren.renL, qU, qp, qS, *]; done) | (simp [jw, AV.ren, AV.ren.renL, qU, qp, qS]; omega)))
end Go.Proofs.YtiljlcgmcmjcoaaGreatDoor
set_option linter.unusedSimpArgs false
set_option maxHeartbeats 1000000
namespace Go.Proofs.YtiljlcgmcmjcoaaGreatDoor
open Go.Ab Go.RowKit
set_option maxRecDepth 10000
attribute [local irreducible] Awp jV q9 qJ Red qy Go.Ab.Fin ql Rz yQ qA qG ResOk jC q6 jH qT
def qdQ (f w : qB) (r : Int) (s : List Gra × Bool) (x : Gra) : List Gra × Bool :=
  (s.1 ++ ((if s.2 = false ∧ jv x ⟨f, w, 0⟩ = false then [⟨f, w, r⟩] else []) ++ (if sameKey ⟨f, w, 0⟩ x = true then [] else [x])), s.2 || !jv x ⟨f, w, 0⟩)
def qhr (f w : qB) (r : Int) (l : List Gra) : List Gra × Bool := l.foldl (qdQ f w r) ([], decide (r = 0))
@[simp] theorem qg0 (f w : qB) (r : Int) : qhr f w r [] = ([], decide (r = 0)) := rfl
end Go.Proofs.YtiljlcgmcmjcoaaGreatDoor
set_option linter.unusedSimpArgs false
set_option maxHeartbeats 1000000
namespace Go.Proofs.YtiljlcgmcmjcoaaGreatDoor
open Go.Ab Go.RowKit
set_option maxRecDepth 10000
attribute [local irreducible] Awp jV q9 qJ Red qy Go.Ab.Fin ql Rz yQ qA qG ResOk jC q6 jH qT
end Go.Proofs.YtiljlcgmcmjcoaaGreatDoor
set_option linter.unusedSimpArgs false
set_option maxHeartbeats 1000000
namespace Go.Proofs.YtiljlcgmcmjcoaaGreatDoor
open Go.Ab Go.RowKit
set_option maxRecDepth 10000
attribute [local irreducible] Awp jV q9 qJ Red qy Go.Ab.Fin ql Rz yQ qA qG ResOk jC q6 jH qT
theorem Zz {l : List Gra} {f b w : qB} {r : Int} (he : jO l f b w r = 0) (h0 : r = 0) : zh l ⟨f, w, 0⟩ = true := by
  obtain ⟨hg, _, _, _, hw0⟩ := qbq he
  cases h : zh l ⟨f, w, 0⟩
  · have := Xx (z2 hg) h
    exact absurd this (hw0.resolve_left (fun e => e h0))
  · rfl
theorem qgA (l : List Gra) (hl : GBig l) (f w : qB) (hf : f.length ≤ 140737488355328) (hw : w.length ≤ 140737488355328) (he : j1 l f w = 0) :
    jY C.P 60 [jD l, .v (str f), .v (str w)] (.tup [jD (xz l f w 3), .v (.int .i64 0)]) := by
  have h0 : jE l = 0 := by
    cases Classical.em (jE l = 0) with
    | inl h => exact h
    | inr h => simp [j1, h] at he
  have hlen := vo h0
  exact qcV l hl f w hf hw he _ (qgj l f w 3 (by omega) (z2 h0) (fun h => by omega))
theorem qgV (l : List Gra) (hl : GBig l) (f b w : qB) (r : Int) (hf : f.length ≤ 140737488355328) (hb : b.length ≤ 140737488355328) (hw : w.length ≤ 140737488355328) (he : jO l f b w r = 0) :
    jY C.P 61 [jD l, .v (str f), .v (str b), .v (str w), .v (.int .i64 r)] (.tup [jD (wi (xz l f w r) f), .v (.int .i64 (yL (xz l f w r) f))]) := by
  have h0 := (qbq he).1
  have hlen := vo h0
  have := Vz (l := l) (f := f) (w := w) (r := r)
  exact qdi l hl f b w r hf hb hw he _ (by omega) (qgj l f w r (by omega) (z2 h0) (Zz he))
end Go.Proofs.YtiljlcgmcmjcoaaGreatDoor
