import Derived.Test.YtiljlcgmcmjcoaaGreatDoorMz18
set_option linter.unusedSimpArgs false
set_option maxHeartbeats 1000000
namespace Go.Proofs.YtiljlcgmcmjcoaaGreatDoor
open Go.Ab Go.RowKit
set_option maxRecDepth 10000
attribute [local irreducible] Awp jZ jg qJ Red qz Go.Ab.Fin qm Rz y0 qB qG ResOk jG q9 jK qV
def yR (L : List Gra) (f : qC) : Int := if L.any (kE f) then (if 60 < L.length then 2 else 0) else 4
def we (L : List Gra) (f : qC) : List Gra := if yR L f = 0 then L else []
theorem qgx {L : List Gra} {f : qC} (h : ∀ x, x ∈ L → kE f x = false) : yR L f = 4 ∧ we L f = [] := by
  have h1 : L.any (kE f) = false := List.any_eq_false.2 fun x hx => by rw [h x hx]; simp
  have h2 : yR L f = 4 := by simp [yR, h1]
  exact ⟨h2, by simp [we, h2]⟩
theorem qhA {L : List Gra} {f : qC} (h : ∃ x, x ∈ L ∧ kE f x = true) (hl : (60 : Int) < (L.length : Int)) : yR L f = 2 ∧ we L f = [] := by
  have h1 : L.any (kE f) = true := List.any_eq_true.2 h
  have h3 : 60 < L.length := by omega
  have h2 : yR L f = 2 := by simp [yR, h1, h3]
  exact ⟨h2, by simp [we, h2]⟩
theorem qgN {L : List Gra} {f : qC} (h : ∃ x, x ∈ L ∧ kE f x = true) (hl : (L.length : Int) ≤ 60) : yR L f = 0 ∧ we L f = L := by
  have h1 : L.any (kE f) = true := List.any_eq_true.2 h
  have h3 : ¬ 60 < L.length := by omega
  have h2 : yR L f = 0 := by simp [yR, h1, h3]
  exact ⟨h2, by simp [we, h2]⟩
theorem qdV (l : List Gra) (hl : GBig l) (f b w : qC) (r : Int) (hf : f.length ≤ 140737488355328) (hb : b.length ≤ 140737488355328) (hw : w.length ≤ 140737488355328) (he : jR l f b w r = 0) (L : List Gra) (hL : L.length ≤ 1000000)
    (hset : qm C.P 104 [jw l, .v (str f), .v (str w), .v (.int .i64 r)] [] (.os 0 0 L.length) [.own false 3 (L.map Gra.row)]) :
    jT C.P 61 [jw l, .v (str f), .v (str b), .v (str w), .v (.int .i64 r)] (.tup [jw (we L f), .v (.int .i64 (yR L f))]) := by
  have hch := QU l hl
  obtain ⟨h0, hn, hr, ho, hw0⟩ := qbK he
  rw [h0] at hch
  have hlen := vK h0
  have hri := kr h0
  have hnm := Yv [f, b, w] (by simp) (by simp; exact ⟨hf, hb, hw⟩)
  simp only [List.map, List.all_cons, List.all_nil, Bool.and_true, hn.1, hn.2.1, hn.2.2, Bool.and_self] at hnm
  have ho1 := qe9 l f b (by omega) hri
  have ho2 := qe9 l f w (by omega) hri
  have hcon := Q0 (kE f) 105 (jJ Tryz.func105 rfl rfl) [.fp [[.v (str f)]] 0 0] rfl L hL (fun g _ => qfZ g f)
  refine qa Tryz.func61 rfl _ Tryz.ntmps61 (Nat.le_of_ble_eq_true rfl) _ Tryz.results61 0 rfl rfl ?_
  (repeat apply jP); apply jd; (repeat' (first | apply jz | refine vD ?_ | refine vB ?_ | refine vE ?_ | refine vC ?_ | refine kv ?_ | refine zj ?_ | refine wc ?_ | refine QY ?_ | refine vF ?_ | (first | fail) | refine yY ?_ | refine xi ?_ | refine xj ?_ | refine yE ?_ | refine yD ?_ | refine vn ?_ | refine vu ?_ | refine xh ?_ | refine xn ?_ | ((first | refine qb ?_ ?_ | refine qc ?_ ?_); all_goals (intro hc; have hp := hc; try simp at hp; try (exfalso; omega))))); show Awp _ _ _ _ _
  refine zD 6 0 ?_
  repeat' (first | refine qe ?_ | (first | refine xsF Tryz.func39 (hch ..) ?_ | refine xsQ Tryz.func62 (hnm ..) ?_ | (refine j4 ?_) | refine xsF Tryz.func63 (ho1 ..) ?_ | refine xsF Tryz.func63 (ho2 ..) ?_ | (apply qH Tryz.func104 rfl rfl; intro hIsFn; refine yb ([]) hIsFn (hset ..) ?_) | (apply qj; apply yi ([1]); exact jJ Tryz.func102 rfl rfl; exact hcon; (case hz => exact ql (yf rfl (by simp) (ju fun _ => rfl)) (ql (xr rfl) qT)); (case hfl => rfl); (case hN => exact nle rfl))) | ((first | refine qb ?_ ?_ | refine qc ?_ ?_ | refine xsC ?_ ?_); all_goals (intro hc; have hp := hc; try simp at hp; try (exfalso; omega))) | refine qv ?_ ?_)
  all_goals try (exfalso; omega)
  all_goals try (exfalso; rcases ho with h | ⟨h, _⟩ <;> contradiction)
  all_goals first
    | (refine (fun (h : yR L f = 4 ∧ we L f = []) => ?_) (qgx (L := L) (f := f) ?_); rotate_left; assumption
       rw [h.1, h.2]
       (exact yy (rs := [.tmp 10, .tmp 11])))
    | (refine (fun (h : yR L f = 2 ∧ we L f = []) => ?_) (qhA (L := L) (f := f) ?_ ?_); rotate_left; assumption; assumption
       rw [h.1, h.2]
       (exact yy (rs := [.tmp 10, .tmp 11])))
    | (refine (fun (h : yR L f = 0 ∧ we L f = L) => ?_) (qgN (L := L) (f := f) ?_ ?_); rotate_left; assumption; assumption
       rw [h.1, h.2]
       (exact yy (rs := [.tmp 10, .tmp 11])))
end Go.Proofs.YtiljlcgmcmjcoaaGreatDoor
set_option linter.unusedSimpArgs false
set_option maxHeartbeats 1000000
namespace Go.Proofs.YtiljlcgmcmjcoaaGreatDoor
open Go.Ab Go.RowKit
set_option maxRecDepth 10000
attribute [local irreducible] Awp jZ jg qJ Red qz Go.Ab.Fin qm Rz y0 qB qG ResOk jG q9 jK qV
def zy (l : List Gra) (f : qC) : List qC := (l.filter (x6 f)).map (·.who)
@[simp] theorem qhR (f : qC) : zy [] f = [] := rfl
theorem qfG {l : List Gra} {f : qC} {k : Nat} (hk : k < l.length) (h : l[k].folder = f) : zy (l.take (k + 1)) f = zy (l.take k) f ++ [l[k].who] := by
  rw [zy, VA hk (by simp [x6, h]), List.map_append]; rfl
theorem qdv {l : List Gra} {f : qC} {k : Nat} (hk : k < l.length) (h : ¬ l[k].folder = f) : zy (l.take (k + 1)) f = zy (l.take k) f := by
  rw [zy, Je hk (by simp [x6, h])]; rfl
theorem qeN (l : List Gra) (f : qC) : (zy l f).length ≤ l.length := by
  rw [zy, List.length_map]; exact List.length_filter_le _ _
theorem qgh (l : List Gra) (f : qC) (hl : l.length ≤ 1000000) : jT C.P 43 [jw l, .v (str f)] (.sl false ((zy l f).map jo)) := by
  refine qa Tryz.func43 rfl _ Tryz.ntmps43 (Nat.le_of_ble_eq_true rfl) _ Tryz.results43 0 rfl rfl ?_
  repeat' (first | refine qe ?_ | fail | ((first | refine xsC ?_ ?_); all_goals (intro hc; have hp := hc; try simp at hp; try (exfalso; omega))) | refine qv ?_ ?_)
  refine Awp.red (vN 5 1 rfl (Nat.zero_le _)) ?_
  (refine Awp.red (jt (τ := ⟨[(0, jw l), (1, .v (str f)), (5, .os 0 0 (zy (l.take 0) f).length), (6, .v (.int .i64 ((0 : Nat) : Int)))], [(0, .own false 1 ((zy (l.take 0) f).map jo))], 1⟩) [(0, 0)] rfl ?gts ?ghs) ?gmain; (case gts => (repeat (first | exact qd | refine qi ?_ | refine x8 ?_ | refine vo ?_ | refine qL ?_ ?_))); (case ghs => (repeat (first | exact qh | refine jU ?_ | refine qO ?_ ?_))))
  refine qr (fun n σ => ∃ i : Nat, i ≤ l.length ∧ n = l.length - i ∧ (True) ∧ σ = ⟨[(0, jw l), (1, .v (str f)), (5, .os 0 0 (zy (l.take i) f).length), (6, .v (.int .i64 (i : Int)))], [(0, .own false 1 ((zy (l.take i) f).map jo))], 1⟩) l.length ⟨0, Nat.zero_le _, rfl, trivial, rfl⟩ ?_
  rintro n σ ⟨i, hi, rfl, -, rfl⟩
  by_cases hlt : i < l.length
  · have hr := qx (f := Gra.row) hlt
    have hfl : (zy (l.take i) f).length ≤ 1000000 := by
      have := qeN (l.take i) f
      simp at this; omega
    repeat' (first | refine qe ?_ | (first | (refine j4 ?_) | (refine xK ?_)) | ((first | refine xsC ?_ ?_); all_goals (intro hc; have hp := hc; try simp at hp; try (exfalso; omega))) | refine qv ?_ ?_)
    all_goals try (exfalso; omega)
    · have hk : zy (l.take (i + 1)) f = zy (l.take i) f ++ [l[i].who] := qfG (f := f) hlt (by assumption)
      have hk2 : List.take (zy (l.take i) f).length ((zy (l.take i) f).map jo) ++ [cellsOf (AV.v (str l[i].who))] = (zy (l.take (i + 1)) f).map jo := by rw [hk, List.map_append, List.take_of_length_le (by simp)]; rfl
      refine ⟨l.length - (i + 1), _, by omega, jt (τ := ⟨[(0, jw l), (1, .v (str f)), (5, .os 0 0 (zy (l.take (i + 1)) f).length), (6, .v (.int .i64 ((i + 1 : Nat) : Int)))], [(0, .own false 1 ((zy (l.take (i + 1)) f).map jo))], 1⟩) [(1, 0)] rfl ?gts ?ghs, i + 1, by omega, rfl, trivial, rfl⟩; (case gts => (repeat (first | exact qd | refine qi ?_ | refine x8 ?_ | refine qfb ?_ | refine qe0 ?_ ?_ | refine qL ?_ ?_)); all_goals (first | exact hk2 | rfl | (rw [hk, List.length_append]; done) | (rw [hk]; simp; done) | trace_state)); (case ghs => (repeat (first | exact qh | refine Jk ?_ | refine qO ?_ ?_)); all_goals (first | exact hk2 | rfl | (rw [hk, List.length_append]; done) | (rw [hk]; simp; done) | trace_state))
    · have hk := qdv (f := f) hlt (by assumption)
      refine ⟨l.length - (i + 1), _, by omega, jt (τ := ⟨[(0, jw l), (1, .v (str f)), (5, .os 0 0 (zy (l.take (i + 1)) f).length), (6, .v (.int .i64 ((i + 1 : Nat) : Int)))], [(0, .own false 1 ((zy (l.take (i + 1)) f).map jo))], 1⟩) [(0, 0)] rfl ?gts ?ghs, i + 1, by omega, rfl, trivial, rfl⟩; (case gts => (repeat (first | exact qd | refine qi ?_ | refine x8 ?_ | refine vo ?_ | refine qL ?_ ?_))); (case ghs => (repeat (first | exact qh | refine jU ?_ | refine qO ?_ ?_)))
  obtain rfl : i = l.length := by omega
  repeat' (first | refine qe ?_ | fail | ((first | refine xsC ?_ ?_); all_goals (intro hc; have hp := hc; try simp at hp; try (exfalso; omega))) | refine qv ?_ ?_)
  all_goals try (exfalso; omega)
  rw [List.take_length]
  (exact yy (rs := [.tmp 4]))
end Go.Proofs.YtiljlcgmcmjcoaaGreatDoor
set_option linter.unusedSimpArgs false
namespace Go.Proofs.YtiljlcgmcmjcoaaGreatDoor
open Go.Ab Go.RowKit
def xO (l : List Gra) (f w : qC) (r : Int) : List Gra :=
  l.take (va l ⟨f, w, 0⟩) ++ ((if r = 0 then [] else [⟨f, w, r⟩]) ++ l.drop (va l ⟨f, w, 0⟩ + if zz l ⟨f, w, 0⟩ = true then 1 else 0))
theorem xu {k x : Gra} : sameKey k x = true ↔ x.folder = k.folder ∧ x.who = k.who := by simp [sameKey]
theorem qbN {k x : Gra} (h : jA x k = true) : sameKey k x = false := by
  cases e : sameKey k x
  · rfl
  · have := (kR (c := x) (xu.1 e)).1
    rw [← this, XB] at h; cases h
theorem qbh {k x : Gra} (h : jA k x = true) : sameKey k x = false := by
  cases e : sameKey k x
  · rfl
  · have := (kR (c := x) (xu.1 e)).2
    rw [← this, XB] at h; cases h
theorem qdI {a b : Gra} (h1 : jA a b = false) (h2 : sameKey b a = false) : jA b a = true := by
  by_cases h : zX a b = 0
  · have := (zk a b).1 h
    rw [xu.2 ⟨this.1, this.2⟩] at h2; cases h2
  · by_cases h' : zX a b < 0
    · rw [(wy a b).1 h'] at h1; cases h1
    · exact (qb1 a b).1 (by omega)
theorem zL : ∀ {l : List Gra}, qt jA l = true ↔ l.Pairwise (fun a b => jA a b = true) := by
  intro l
  rw [List.pairwise_iff_getElem]
  constructor
  · intro h i j hi hj hij
    exact Jo h i j hi hj hij
  · intro h
    exact jW.2 fun k hk => h k (k + 1) (by omega) hk (by omega)
theorem Zc (k : Gra) : ∀ {l : List Gra}, l.Pairwise (fun a b => jA a b = true) → ∃ A M Z, l = A ++ (M ++ Z) ∧ va l k = A.length ∧ (∀ a, a ∈ A → jA a k = true) ∧ (∀ z, z ∈ Z → jA k z = true) ∧
    ((zz l k = true ∧ ∃ x, M = [x] ∧ sameKey k x = true) ∨ (zz l k = false ∧ M = []))
  | [], _ => ⟨[], [], [], rfl, rfl, nofun, nofun, .inr ⟨rfl, rfl⟩⟩
  | x :: l, h => by
    obtain ⟨h1, h2⟩ := List.pairwise_cons.1 h
    by_cases hx : jA x k = true
    · obtain ⟨A, M, Z, rfl, hp, hA, hZ, hM⟩ := Zc k h2
      have hp' : va (x :: (A ++ (M ++ Z))) k = A.length + 1 := by
        simp only [va, List.takeWhile_cons, hx, if_true, List.length_cons] at hp ⊢; omega
      refine ⟨x :: A, M, Z, rfl, hp', fun a ha => ?_, hZ, ?_⟩
      · rcases List.mem_cons.1 ha with rfl | ha
        · exact hx
        · exact hA a ha
      · have : zz (x :: (A ++ (M ++ Z))) k = zz (A ++ (M ++ Z)) k := by
          unfold zz
          rw [hp', hp, List.getElem?_cons_succ]
        rw [this]; exact hM
    · have hx : jA x k = false := by simpa using hx
      have hp : va (x :: l) k = 0 := by simp [va, List.takeWhile_cons, hx]
      have hh : zz (x :: l) k = decide (zX x k = 0) := by
        unfold zz; rw [hp]; rfl
      cases hk : sameKey k x with
      | true =>
        refine ⟨[], [x], l, rfl, hp, nofun, fun z hz => ?_, .inl ⟨?_, x, rfl, hk⟩⟩
        · rw [← (kR (c := z) (xu.1 hk)).2]; exact h1 z hz
        · rw [hh, decide_eq_true_iff, zk]; exact xu.1 hk
      | false =>
        have hg := qdI hx hk
        refine ⟨[], [], x :: l, rfl, hp, nofun, fun z hz => ?_, .inr ⟨?_, rfl⟩⟩
        · rcases List.mem_cons.1 hz with rfl | hz
          · exact hg
          · exact wN hg (h1 z hz)
        · rw [hh, decide_eq_false_iff_not, zk]
          intro e
          rw [xu.2 e] at hk; cases hk
theorem Qo {l A M Z : List Gra} {f w : qC} {r : Int} (h : l = A ++ (M ++ Z)) (hp : va l ⟨f, w, 0⟩ = A.length) (hM : (zz l ⟨f, w, 0⟩ = true ∧ ∃ x, M = [x] ∧ sameKey ⟨f, w, 0⟩ x = true) ∨ (zz l ⟨f, w, 0⟩ = false ∧ M = [])) :
    xO l f w r = A ++ ((if r = 0 then [] else [⟨f, w, r⟩]) ++ Z) := by
  unfold xO
  rw [hp]
  have h1 : l.take A.length = A := by rw [h]; simp
  rw [h1]
  rcases hM with ⟨hh, x, rfl, _⟩ | ⟨hh, rfl⟩
  · simp only [hh, if_true]; rw [h]; simp
  · simp only [hh, Bool.false_eq_true, if_false]; rw [h]; simp
theorem qaw {l : List Gra} {f w : qC} {r : Int} (hs : qt jA l = true) : qt jA (xO l f w r) = true := by
  have hl := zL.1 hs
  obtain ⟨A, M, Z, h, hp, hA, hZ, hM⟩ := Zc ⟨f, w, 0⟩ hl
  rw [Qo h hp hM]
  refine zL.2 ?_
  have hsub : (A ++ Z).Sublist l := by
    rw [h]; exact List.Sublist.append_left (List.sublist_append_right _ _) _
  have hAZ := List.Pairwise.sublist hsub hl
  rw [List.pairwise_append] at hAZ
  have hkey : ∀ c, jA c ⟨f, w, r⟩ = jA c ⟨f, w, 0⟩ ∧ jA ⟨f, w, r⟩ c = jA ⟨f, w, 0⟩ c := fun c => kR ⟨rfl, rfl⟩
  by_cases h0 : r = 0
  · simp only [h0, if_true, List.nil_append]
    rw [List.pairwise_append]; exact hAZ
  · simp only [h0, if_false]
    rw [List.pairwise_append]
    refine ⟨hAZ.1, ?_, fun a ha b hb => ?_⟩
    · rw [List.cons_append, List.nil_append, List.pairwise_cons]
      exact ⟨fun z hz => by rw [(hkey z).2]; exact hZ z hz, hAZ.2.1⟩
    · rw [List.cons_append, List.nil_append, List.mem_cons] at hb
      rcases hb with rfl | hb
      · rw [(hkey a).1]; exact hA a ha
      · exact hAZ.2.2 a ha b hb
theorem qbB (A B : List Gra) (f w : qC) (hA : ∀ a, a ∈ A → sameKey ⟨f, w, 0⟩ a = false) : jY (A ++ B) f w = jY B f w := by
  have : A.find? (sameKey ⟨f, w, 0⟩) = none := List.find?_eq_none.2 fun a ha => by rw [hA a ha]; simp
  unfold jY
  rw [List.find?_append, this, Option.none_or]
theorem WJ {A : List Gra} {f w : qC} (hA : ∀ a, a ∈ A → sameKey ⟨f, w, 0⟩ a = false) : jY A f w = 0 := by
  have : A.find? (sameKey ⟨f, w, 0⟩) = none := List.find?_eq_none.2 fun a ha => by rw [hA a ha]; simp
  unfold jY
  rw [this]
theorem qbd {l : List Gra} {f w : qC} {r : Int} (hs : qt jA l = true) : jY (xO l f w r) f w = r := by
  obtain ⟨A, M, Z, h, hp, hA, hZ, hM⟩ := Zc ⟨f, w, 0⟩ (zL.1 hs)
  rw [Qo h hp hM, qbB _ _ _ _ fun a ha => qbN (hA a ha)]
  by_cases h0 : r = 0
  · simp only [h0, if_true, List.nil_append]
    exact WJ fun z hz => qbh (hZ z hz)
  · simp [h0, jY, sameKey]
theorem Q9 {l : List Gra} {f w : qC} {r : Int} (hs : qt jA l = true) {x : Gra} (hx : x ∈ xO l f w r) : x ∈ l ∨ (r ≠ 0 ∧ x = ⟨f, w, r⟩) := by
  obtain ⟨A, M, Z, h, hp, hA, hZ, hM⟩ := Zc ⟨f, w, 0⟩ (zL.1 hs)
  rw [Qo h hp hM] at hx
  rw [h]
  by_cases h0 : r = 0
  · simp only [h0, if_true, List.nil_append, List.mem_append] at hx ⊢
    rcases hx with hx | hx
    · exact .inl (.inl hx)
    · exact .inl (.inr (.inr hx))
  · simp only [h0, if_false, List.mem_append, List.mem_singleton, List.mem_cons, List.not_mem_nil, or_false] at hx ⊢
    rcases hx with hx | hx | hx
    · exact .inl (.inl hx)
    · exact .inr ⟨h0, hx⟩
    · exact .inl (.inr (.inr hx))
theorem qaI {l : List Gra} {f w : qC} {r : Int} (hs : qt jA l = true) {x : Gra} (hx : x ∈ l) (hk : sameKey ⟨f, w, 0⟩ x = false) : x ∈ xO l f w r := by
  obtain ⟨A, M, Z, h, hp, hA, hZ, hM⟩ := Zc ⟨f, w, 0⟩ (zL.1 hs)
  rw [Qo h hp hM]
  rw [h] at hx
  simp only [List.mem_append] at hx ⊢
  rcases hx with hx | hx | hx
  · exact .inl hx
  · rcases hM with ⟨_, y, rfl, hy⟩ | ⟨_, rfl⟩
    · rw [List.mem_singleton.1 hx, hy] at hk; cases hk
    · cases hx
  · exact .inr (.inr hx)
theorem Y9 {f : qC} {x : Gra} : kE f x = true ↔ x.folder = f ∧ x.right = 3 := by simp [kE]
theorem qbt {l : List Gra} {f w : qC} {r : Int} (hs : qt jA l = true) (ho : wU l = true) (hf : (xO l f w r).any (kE f) = true) : wU (xO l f w r) = true := by
  refine List.all_eq_true.2 fun x hx => ?_
  by_cases e : x.folder = f
  · obtain ⟨y, hy, h1⟩ := List.any_eq_true.1 hf
    have h1 := Y9.1 h1
    exact List.any_eq_true.2 ⟨y, hy, by simp [h1.1, h1.2, e]⟩
  · rcases Q9 hs hx with h | ⟨_, rfl⟩
    · obtain ⟨y, hy, h1⟩ := List.any_eq_true.1 (List.all_eq_true.1 ho x h)
      simp only [Bool.and_eq_true, decide_eq_true_eq] at h1
      have hk : sameKey ⟨f, w, 0⟩ y = false := by
        cases e' : sameKey ⟨f, w, 0⟩ y
        · rfl
        · exact absurd (h1.1.symm.trans (xu.1 e').1) e
      exact List.any_eq_true.2 ⟨y, qaI hs hy hk, by simp [h1.1, h1.2]⟩
    · exact absurd rfl e
theorem VF {l : List Gra} {f w : qC} {r : Int} : (xO l f w r).length ≤ l.length + 1 := by
  unfold xO
  have := qcT l ⟨f, w, 0⟩
  by_cases h0 : r = 0
  · simp [h0]; omega
  · simp [h0]; omega
theorem xE {l : List Gra} (h : jH l = 0) : l.length ≤ 60 ∧ (∀ x, x ∈ l → vj x = 0) ∧ qt jA l = true ∧ wU l = true := by
  unfold jH at h
  split at h
  · omega
  · rename_i h60
    split at h
    · rename_i h1
      split at h
      · split at h
        · exact ⟨by omega, jE.1 h1, by assumption, by assumption⟩
        · omega
      · omega
    · exact absurd h (by assumption)
theorem qd0 {l : List Gra} (h1 : l.length ≤ 60) (h2 : ∀ x, x ∈ l → vj x = 0) (h3 : qt jA l = true) (h4 : wU l = true) : jH l = 0 := by
  unfold jH
  rw [if_neg (by omega), if_pos (jE.2 h2), if_pos h3, if_pos h4]
theorem Zn {l : List Gra} {f w : qC} {r : Int} (h : jH l = 0) (hf : qo f = true) (hw : qo w = true) (hr : 0 ≤ r ∧ r ≤ 3) (ho : (xO l f w r).any (kE f) = true) (hlen : (xO l f w r).length ≤ 60) : jH (xO l f w r) = 0 := by
  obtain ⟨h1, h2, h3, h4⟩ := xE h
  refine qd0 hlen (fun x hx => ?_) (qaw h3) (qbt h3 h4 ho)
  rcases Q9 h3 hx with h | ⟨h0, rfl⟩
  · exact h2 x h
  · exact Xk ⟨hf, hw⟩ ⟨by show 1 ≤ r; omega, hr.2⟩
theorem qaf {l : List Gra} {f w : qC} {r : Int} (hl : GBig l) (hs : qt jA l = true) (hlen : l.length ≤ 1000000) (hf : f.length ≤ 140737488355328) (hw : w.length ≤ 140737488355328) : GBig (xO l f w r) := by
  refine ⟨fun x hx => ?_, by have := VF (l := l) (f := f) (w := w) (r := r); omega⟩
  rcases Q9 hs hx with h | ⟨_, rfl⟩
  · exact hl.each x h
  · exact ⟨hf, hw⟩
end Go.Proofs.YtiljlcgmcmjcoaaGreatDoor
set_option linter.unusedSimpArgs false
set_option maxHeartbeats 1000000
namespace Go.Proofs.YtiljlcgmcmjcoaaGreatDoor
open Go.Ab Go.RowKit
set_option maxRecDepth 10000
attribute [local irreducible] Awp jZ jg qJ Red qz Go.Ab.Fin qm Rz y0 qB qG ResOk jG q9 jK qV
theorem qeg {α : Type} (rs : List α) (i n : Nat) (hi : i < n) (hn : n ≤ rs.length) (z : α) :
    ((rs.take i ++ (rs.drop (i + 1)).take (n - (i + 1)) ++ rs.drop (i + (n - (i + 1)))).take (i + (n - (i + 1))) ++ List.replicate (n - (i + (n - (i + 1)))) z ++ (rs.take i ++ (rs.drop (i + 1)).take (n - (i + 1)) ++ rs.drop (i + (n - (i + 1)))).drop (i + (n - (i + 1)) + (n - (i + (n - (i + 1)))))).take (n - 1) =
      rs.take i ++ (rs.drop (i + 1)).take (n - (i + 1)) := by
  rw [List.append_assoc, List.take_append_of_le_length (by simp; omega), List.take_take, show min (n - 1) (i + (n - (i + 1))) = n - 1 from by omega, List.take_append_of_le_length (by simp; omega), List.take_of_length_le (by simp; omega)]
theorem qdH (l : List Gra) (i : Nat) (hi : i < l.length) (hl : l.length ≤ 1000000) :
    qm C1.P 133 [.os 0 0 l.length, .v (.int .i64 (i : Int)), .v (.int .i64 ((i + 1 : Nat) : Int))] [.own false 3 (l.map Gra.row)] (.os 0 0 (l.length - 1)) [.own false 3 ((l.take i ++ l.drop (i + 1)).map Gra.row)] := by
  have hrc : (l.map Gra.row).all (fun row => row.length == 3 && row.all jS) = true := xR fun _ => rfl
  have hml : (l.map Gra.row).length = l.length := List.length_map ..
  refine qa (C := C1) Tryz.func133 rfl _ Tryz.ntmps133 (Nat.le_of_ble_eq_true rfl) _ Tryz.results133 1 rfl rfl ?_
  repeat' (first | refine qe ?_ | (first | (refine qeo ?_) | (refine Ji ?_) | (refine qcx ?_) | (apply zF; apply YK; (case hx => rfl); (case hT => rfl); (case he => rfl); (case hE => rfl); (case hn => rfl); (case hsrc => apply Qx; rfl; rfl; (show 0 + (i + 1) + (l.length - (i + 1)) ≤ (l.map Gra.row).length; omega); rfl; exact hrc); (case hfit => (first | omega | (simp; done) | (simp only [List.length_cons, List.length_nil, List.length_map]; omega) | (simp; omega))); (case hN => exact nle rfl))) | ((first | refine qb ?_ ?_ | refine qc ?_ ?_ | refine xsC ?_ ?_); all_goals (intro hc; have hp := hc; try simp at hp; try (exfalso; omega))) | refine qv ?_ ?_)
  all_goals try (exfalso; omega)
  have hL : (List.take (l.length - (i + 1)) (List.drop (i + 1) (l.map Gra.row))).length = l.length - (i + 1) := by simp
  apply qc0 (C := C1) 0 (l.length - 1)
  case hn => rfl
  case hr =>
    simp only [Nat.zero_add, Nat.sub_zero, hL]
    refine (qeg (l.map Gra.row) i l.length hi (by omega) _).trans (?_ : _ = (l.take i ++ l.drop (i + 1)).map Gra.row)
    rw [List.map_append, List.map_take, List.map_drop, List.take_of_length_le (l := List.drop (i + 1) (l.map Gra.row)) (by simp)]
  (apply jl (rs := [.tmp 6]) [] 1; (case hr => (repeat (first | exact qQ | (apply qR; rfl) | (apply qF; rfl; rfl; rfl; rfl; rfl)))); (case hL => rfl); (case hh => (repeat (first | exact qh | refine jU ?_ | refine qO ?_ ?_)); all_goals trace_state); (case hi => first | exact (rfl : _ = ([] : List (Nat × Nat))) | exact (rfl : _ = [((0 : Nat), (0 : Nat))]) | exact (rfl : _ = [((0 : Nat), (0 : Nat)), (1, 1)])); (case hz => first | rfl | (simp [jB, AV.ren, AV.ren.renL, qW, qq, qS]; done) | (simp [jB, AV.ren, AV.ren.renL, qW, qq, qS, *]; done) | (simp [jB, AV.ren, AV.ren.renL, qW, qq, qS]; omega)))
theorem qcs {l : List Gra} {k : Gra} (h : zz l k = true) : va l k < l.length := by
  unfold zz at h
  split at h
  · rename_i x hx; exact (List.getElem?_eq_some_iff.1 hx).1
  · cases h
theorem qgX (l : List Gra) (f w : qC) (r : Int) (hl : l.length ≤ 1000000) (hs : qt jA l = true) (hr : r = 0 → zz l ⟨f, w, 0⟩ = true) :
    qm C.P 104 [jw l, .v (str f), .v (str w), .v (.int .i64 r)] [] (.os 0 0 (xO l f w r).length) [.own false 3 ((xO l f w r).map Gra.row)] := by
  have hfi := qbc l f w hl hs
  by_cases h0 : r = 0
  · have hh := hr h0
    have hp := qcs hh
    have hL : xO l f w r = l.take (va l ⟨f, w, 0⟩) ++ l.drop (va l ⟨f, w, 0⟩ + 1) := by simp [xO, h0, hh]
    rw [hh] at hfi
    have hdel := qdH l (va l ⟨f, w, 0⟩) hp hl
    generalize xO l f w r = L at hL ⊢
    generalize va l ⟨f, w, 0⟩ = p at hL hp hfi hdel
    have hlen : L.length = l.length - 1 := by rw [hL]; simp; omega
    subst h0
    refine qa Tryz.func104 rfl _ Tryz.ntmps104 (Nat.le_of_ble_eq_true rfl) _ Tryz.results104 0 rfl rfl ?_
    repeat' (first | refine qe ?_ | (first | (apply qH Tryz.func79 rfl rfl; intro hIsFn; refine yb ([]) hIsFn (Q8 l hl ..) ?_) | (apply qj; apply yi ([0]); exact jJ Tryz.func108 rfl rfl; apply hfi; (case hz => (repeat' (first | exact qT | apply ql | exact qM rfl | exact yC | (apply yf; (case hn => rfl); (case hl => first | with_reducible rfl | (simp; done) | (simp [*]; done) | omega); (case hp => (first | assumption | exact yv rfl | exact ju fun _ => rfl))) | apply j8 | apply j3))); (case hfl => rfl); (case hN => exact nle rfl)) | (apply qH Tryz.func133 rfl rfl; intro hIsFn; refine wI ([0]) 0 hIsFn (hdel ..) ?_)) | ((first | refine xsC ?_ ?_); all_goals (intro hc; have hp := hc; try simp at hp; try (exfalso; omega))) | refine qv ?_ ?_)
    all_goals try (exfalso; omega)
    (apply jl (rs := [.tmp 8]) [(0, 0)] 1; (case hr => (repeat (first | exact qQ | (apply qR; rfl) | (apply qF; rfl; rfl; rfl; rfl; rfl)))); (case hL => rfl); (case hh => (repeat (first | exact qh | refine jU ?_ | refine qO ?_ ?_)); all_goals (rw [hL])); (case hi => first | exact (rfl : _ = ([] : List (Nat × Nat))) | exact (rfl : _ = [((0 : Nat), (0 : Nat))]) | exact (rfl : _ = [((0 : Nat), (0 : Nat)), (1, 1)])); (case hz => first | rfl | (simp [jB, AV.ren, AV.ren.renL, qW, qq, qS]; done) | (simp [jB, AV.ren, AV.ren.renL, qW, qq, qS, *]; done) | (simp [jB, AV.ren, AV.ren.renL, qW, qq, qS]; omega)))
  · cases hh : zz l ⟨f, w, 0⟩ with
    | true =>
      have hp := qcs hh
      have hL : xO l f w r = l.take (va l ⟨f, w, 0⟩) ++ ([⟨f, w, r⟩] ++ l.drop (va l ⟨f, w, 0⟩ + 1)) := by simp [xO, h0, hh]
      have hx : l[va l ⟨f, w, 0⟩].folder = f ∧ l[va l ⟨f, w, 0⟩].who = w := by
        unfold zz at hh
        rw [List.getElem?_eq_getElem hp] at hh
        simpa [zk] using hh
      rw [hh] at hfi
      generalize xO l f w r = L at hL ⊢
      generalize va l ⟨f, w, 0⟩ = p at hL hp hfi hx
      have hlen : L.length = l.length := by rw [hL]; simp; omega
      have hrow := qx (f := Gra.row) hp
      refine qa Tryz.func104 rfl _ Tryz.ntmps104 (Nat.le_of_ble_eq_true rfl) _ Tryz.results104 0 rfl rfl ?_
      repeat' (first | refine qe ?_ | (first | (apply qH Tryz.func79 rfl rfl; intro hIsFn; refine yb ([]) hIsFn (Q8 l hl ..) ?_) | (apply qj; apply yi ([0]); exact jJ Tryz.func108 rfl rfl; apply hfi; (case hz => (repeat' (first | exact qT | apply ql | exact qM rfl | exact yC | (apply yf; (case hn => rfl); (case hl => first | with_reducible rfl | (simp; done) | (simp [*]; done) | omega); (case hp => (first | assumption | exact yv rfl | exact ju fun _ => rfl))) | apply j8 | apply j3))); (case hfl => rfl); (case hN => exact nle rfl)) | (refine vz ?_)) | ((first | refine xsC ?_ ?_); all_goals (intro hc; have hp := hc; try simp at hp; try (exfalso; omega))) | refine qv ?_ ?_)
      all_goals try (exfalso; omega)
      (apply jl (rs := [.tmp 8]) [(0, 0)] 1; (case hr => (repeat (first | exact qQ | (apply qR; rfl) | (apply qF; rfl; rfl; rfl; rfl; rfl)))); (case hL => rfl); (case hh => (repeat (first | exact qh | refine jU ?_ | refine qO ?_ ?_)); all_goals (show (l.map Gra.row).set p (Gra.row ⟨l[p].folder, l[p].who, r⟩) = L.map Gra.row; rw [hx.1, hx.2, ← List.map_set, hL, List.set_eq_take_append_cons_drop, if_pos (by assumption)]; rfl)); (case hi => first | exact (rfl : _ = ([] : List (Nat × Nat))) | exact (rfl : _ = [((0 : Nat), (0 : Nat))]) | exact (rfl : _ = [((0 : Nat), (0 : Nat)), (1, 1)])); (case hz => first | rfl | (simp [jB, AV.ren, AV.ren.renL, qW, qq, qS]; done) | (simp [jB, AV.ren, AV.ren.renL, qW, qq, qS, *]; done) | (simp [jB, AV.ren, AV.ren.renL, qW, qq, qS]; omega)))
    | false =>
      by_cases hp : va l ⟨f, w, 0⟩ = l.length
      · have hL : xO l f w r = l ++ [⟨f, w, r⟩] := by simp [xO, h0, hh, hp]
        rw [hL, List.length_append]
        exact qe8 l f w r hl hs h0 hh hp
      · have hpl : va l ⟨f, w, 0⟩ < l.length := by have := qcT l ⟨f, w, 0⟩; omega
        have hL : xO l f w r = l.take (va l ⟨f, w, 0⟩) ++ ([⟨f, w, r⟩] ++ l.drop (va l ⟨f, w, 0⟩)) := by simp [xO, h0, hh]
        rw [hh] at hfi
        have hin := qco l ⟨f, w, r⟩ (va l ⟨f, w, 0⟩) hpl hl
        generalize xO l f w r = L at hL ⊢
        generalize va l ⟨f, w, 0⟩ = p at hL hpl hfi hin
        have hlen : L.length = l.length + 1 := by rw [hL]; simp; omega
        refine qa Tryz.func104 rfl _ Tryz.ntmps104 (Nat.le_of_ble_eq_true rfl) _ Tryz.results104 0 rfl rfl ?_
        repeat' (first | refine qe ?_ | (first | (apply qH Tryz.func79 rfl rfl; intro hIsFn; refine yb ([]) hIsFn (Q8 l hl ..) ?_) | (apply qj; apply yi ([0]); exact jJ Tryz.func108 rfl rfl; apply hfi; (case hz => (repeat' (first | exact qT | apply ql | exact qM rfl | exact yC | (apply yf; (case hn => rfl); (case hl => first | with_reducible rfl | (simp; done) | (simp [*]; done) | omega); (case hp => (first | assumption | exact yv rfl | exact ju fun _ => rfl))) | apply j8 | apply j3))); (case hfl => rfl); (case hN => exact nle rfl)) | (refine j4 ?_) | (apply qH Tryz.func134 rfl rfl; intro hIsFn; refine v7 ([0]) 0 hIsFn (hin ..) ?_)) | ((first | refine xsC ?_ ?_); all_goals (intro hc; have hp := hc; try simp at hp; try (exfalso; omega))) | refine qv ?_ ?_)
        all_goals try (exfalso; omega)
        (apply jl (rs := [.tmp 8]) [(1, 0)] 1; (case hr => (repeat (first | exact qQ | (apply qR; rfl) | (apply qF; rfl; rfl; rfl; rfl; rfl)))); (case hL => rfl); (case hh => (repeat (first | exact qh | refine jU ?_ | refine qO ?_ ?_)); all_goals (rw [hL])); (case hi => first | exact (rfl : _ = ([] : List (Nat × Nat))) | exact (rfl : _ = [((0 : Nat), (0 : Nat))]) | exact (rfl : _ = [((0 : Nat), (0 : Nat)), (1, 1)])); (case hz => first | rfl | (simp [jB, AV.ren, AV.ren.renL, qW, qq, qS]; done) | (simp [jB, AV.ren, AV.ren.renL, qW, qq, qS, *]; done) | (simp [jB, AV.ren, AV.ren.renL, qW, qq, qS]; omega)))
end Go.Proofs.YtiljlcgmcmjcoaaGreatDoor
set_option linter.unusedSimpArgs false
set_option maxHeartbeats 1000000
namespace Go.Proofs.YtiljlcgmcmjcoaaGreatDoor
open Go.Ab Go.RowKit
set_option maxRecDepth 10000
attribute [local irreducible] Awp jZ jg qJ Red qz Go.Ab.Fin qm Rz y0 qB qG ResOk jG q9 jK qV
def qez (f w : qC) (r : Int) (s : List Gra × Bool) (x : Gra) : List Gra × Bool :=
  (s.1 ++ ((if s.2 = false ∧ jA x ⟨f, w, 0⟩ = false then [⟨f, w, r⟩] else []) ++ (if sameKey ⟨f, w, 0⟩ x = true then [] else [x])), s.2 || !jA x ⟨f, w, 0⟩)
def qhQ (f w : qC) (r : Int) (l : List Gra) : List Gra × Bool := l.foldl (qez f w r) ([], decide (r = 0))
@[simp] theorem qhH (f w : qC) (r : Int) : qhQ f w r [] = ([], decide (r = 0)) := rfl
end Go.Proofs.YtiljlcgmcmjcoaaGreatDoor
set_option linter.unusedSimpArgs false
set_option maxHeartbeats 1000000
namespace Go.Proofs.YtiljlcgmcmjcoaaGreatDoor
open Go.Ab Go.RowKit
set_option maxRecDepth 10000
attribute [local irreducible] Awp jZ jg qJ Red qz Go.Ab.Fin qm Rz y0 qB qG ResOk jG q9 jK qV
theorem qgM : qdw C.P 88 = some [1, 1, 0] := by kernel_rfl
theorem qdQ (a b : Gra) : w7 [1, 1, 0] a.row b.row = some (decide (a = b)) := by
  obtain ⟨a1, a2, a3⟩ := a
  obtain ⟨b1, b2, b3⟩ := b
  simp only [Gra.row, w7, Qh, str, Gra.mk.injEq, if_true, Option.some.injEq]
  by_cases h1 : a1 = b1 <;> by_cases h2 : a2 = b2 <;> by_cases h3 : a3 = b3 <;> simp [h1, h2, h3]
theorem qdm (l : List Gra) (hl : l.length ≤ 1000000) : jT C.P 34 [jw l, jw l] (.v (.bool true)) := by
  refine qa Tryz.func34 rfl _ Tryz.ntmps34 (Nat.le_of_ble_eq_true rfl) _ Tryz.results34 0 rfl rfl ?_
  repeat' (first | refine qe ?_ | fail | ((first | refine xsC ?_ ?_); all_goals (intro hc; have hp := hc; try simp at hp; try (exfalso; omega))) | refine qv ?_ ?_)
  all_goals try (exfalso; simp_all; done)
  (refine Awp.red (qf (ts := [(0, jw l), (1, jw l), (5, .v (.int .i64 ((0 : Nat) : Int)))]) ?_) ?_; ((repeat (first | exact qd | refine qi ?_ | refine qL ?_ ?_))))
  refine qr (fun n σ => ∃ i : Nat, i ≤ l.length ∧ n = l.length - i ∧ (True) ∧ σ = ⟨[(0, jw l), (1, jw l), (5, .v (.int .i64 (i : Int)))], [], C.nh⟩) l.length ⟨0, Nat.zero_le _, rfl, trivial, rfl⟩ ?_
  rintro n σ ⟨i, hi, rfl, -, rfl⟩
  by_cases hlt : i < l.length
  · have hr := qx (f := Gra.row) hlt
    repeat' (first | refine qe ?_ | (first | (apply qj; apply Yx; rfl; rfl; exact qgM; exact qdQ _ _; (first | exact .inl ⟨rfl, rfl⟩ | exact .inr ⟨rfl, rfl⟩); exact nle rfl)) | ((first | refine xsC ?_ ?_); all_goals (intro hc; have hp := hc; try simp at hp; try (exfalso; omega))) | refine qv ?_ ?_)
    all_goals try (exfalso; omega)
    all_goals try (exfalso; simp_all; done)
    refine ⟨l.length - (i + 1), _, by omega, qf (ts := [(0, jw l), (1, jw l), (5, .v (.int .i64 ((i + 1 : Nat) : Int)))]) ?_, i + 1, by omega, rfl, trivial, rfl⟩; ((repeat (first | exact qd | refine qi ?_ | refine qL ?_ ?_)))
  obtain rfl : i = l.length := by omega
  repeat' (first | refine qe ?_ | fail | ((first | refine xsC ?_ ?_); all_goals (intro hc; have hp := hc; try simp at hp; try (exfalso; omega))) | refine qv ?_ ?_)
  all_goals try (exfalso; omega)
  apply qU
  rfl
  rfl
end Go.Proofs.YtiljlcgmcmjcoaaGreatDoor
set_option linter.unusedSimpArgs false
set_option maxHeartbeats 1000000
namespace Go.Proofs.YtiljlcgmcmjcoaaGreatDoor
open Go.Ab Go.RowKit
set_option maxRecDepth 10000
attribute [local irreducible] Awp jZ jg qJ Red qz Go.Ab.Fin qm Rz y0 qB qG ResOk jG q9 jK qV
theorem ZD {l : List Gra} {f b w : qC} {r : Int} (he : jR l f b w r = 0) (h0 : r = 0) : zz l ⟨f, w, 0⟩ = true := by
  obtain ⟨hg, _, _, _, hw0⟩ := qbK he
  cases h : zz l ⟨f, w, 0⟩
  · have := X9 (kr hg) h
    exact absurd this (hw0.resolve_left (fun e => e h0))
  · rfl
theorem qhu (l : List Gra) (hl : GBig l) (f w : qC) (hf : f.length ≤ 140737488355328) (hw : w.length ≤ 140737488355328) (he : j5 l f w = 0) :
    jT C.P 60 [jw l, .v (str f), .v (str w)] (.tup [jw (xO l f w 3), .v (.int .i64 0)]) := by
  have h0 : jH l = 0 := by
    cases Classical.em (jH l = 0) with
    | inl h => exact h
    | inr h => simp [j5, h] at he
  have hlen := vK h0
  exact qdx l hl f w hf hw he _ (qgX l f w 3 (by omega) (kr h0) (fun h => by omega))
theorem qhb (l : List Gra) (hl : GBig l) (f b w : qC) (r : Int) (hf : f.length ≤ 140737488355328) (hb : b.length ≤ 140737488355328) (hw : w.length ≤ 140737488355328) (he : jR l f b w r = 0) :
    jT C.P 61 [jw l, .v (str f), .v (str b), .v (str w), .v (.int .i64 r)] (.tup [jw (we (xO l f w r) f), .v (.int .i64 (yR (xO l f w r) f))]) := by
  have h0 := (qbK he).1
  have hlen := vK h0
  have := VF (l := l) (f := f) (w := w) (r := r)
  exact qdV l hl f b w r hf hb hw he _ (by omega) (qgX l f w r (by omega) (kr h0) (ZD he))
end Go.Proofs.YtiljlcgmcmjcoaaGreatDoor
