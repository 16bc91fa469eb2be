import Derived.Test.YtiljlcgmcmjcoaaGreatDoorMz11
set_option linter.unusedSimpArgs false
set_option linter.unnecessarySimpa false
set_option linter.unusedVariables false
set_option maxHeartbeats 1000000
namespace Go.Proofs.YtiljlcgmcmjcoaaGreatDoor
open Go.Ab Go.RowKit
set_option maxRecDepth 10000
attribute [local irreducible] Awp jZ jg qJ Red qz Go.Ab.Fin qm Rz y0 qB qG ResOk jG q9 jK qV
structure RightE (t : List Ent) : Prop where
  rise : qt ya t = true
  paths : ∀ x, x ∈ t → qD x.path = 0
  few : t.length ≤ 400000
def zQ (t : List Ent) (c : Chg) (v : Int) : Int := if ¬ yt c = 0 then yt c else if ¬ zi t c = 0 then zi t c else yd t c v
def ZS (t : List Ent) (c : Chg) (v : Int) : List Ent := if zQ t c v = 0 then jq t c v else []
theorem yA {c : Chg} (h : yt c = 0) : 1 ≤ c.kind ∧ c.kind ≤ 4 ∧ qD c.path = 0 ∧ (c.kind = 3 → qD c.to = 0) ∧ z8 c = 0 := by
  unfold yt at h
  split at h
  · exact absurd h (by decide)
  · split at h
    · contradiction
    · rename_i h1 h2
      split at h
      · rename_i h3; exact absurd h h3.2
      · rename_i h3
        refine ⟨by omega, by omega, by simpa using h2, fun h4 => ?_, h⟩
        have h5 := fun e => h3 ⟨h4, e⟩
        simpa using h5
theorem Ze {t : List Ent} {x y : Ent} (h : y ∈ yO t x) : y = x ∨ y ∈ t := by
  unfold yO at h
  split at h
  · rcases List.mem_append.1 h with h | h
    · exact .inr (List.mem_of_mem_take h)
    · rcases List.mem_append.1 h with h | h
      · exact .inl (List.mem_singleton.1 h)
      · exact .inr (List.mem_of_mem_drop h)
  · rcases List.mem_append.1 h with h | h
    · exact .inr (List.mem_of_mem_take h)
    · rcases List.mem_append.1 h with h | h
      · exact .inl (List.mem_singleton.1 h)
      · exact .inr (List.mem_of_mem_drop h)
theorem VK : ∀ {l t : List Ent} {y : Ent}, y ∈ l.foldl yO t → y ∈ l ∨ y ∈ t
  | [], _, _, h => .inr h
  | x :: l, t, y, h => by
    rcases VK (l := l) (t := yO t x) h with h | h
    · exact .inl (List.mem_cons_of_mem _ h)
    · rcases Ze h with rfl | h
      · exact .inl (List.mem_cons_self ..)
      · exact .inr h
theorem YH {c : Chg} {v : Int} {x : Ent} (hx : qD x.path = 0) (h1 : qD c.path = 0) (h2 : qD c.to = 0) (hi : inB x.path c.path = true) (hg : yn (c.to ++ x.path.drop c.path.length) = false) : qD (yL c v x).path = 0 := by
  have hm := QX hx h1 h2 hi
  rw [hg, if_neg (by decide)] at hm
  have := (qbD hm).2.1
  exact (y8.1 this).1
theorem Wq {t : List Ent} {c : Chg} {v : Int} (h : yd t c v = 0) : yH t c = false ∧ (jq t c v).length ≤ 60 := by
  unfold yd at h
  split at h
  · exact absurd h (by decide)
  · split at h
    · exact absurd h (by decide)
    · rename_i h1 h2
      exact ⟨by simpa using h1, by omega⟩
theorem WY {t : List Ent} {c : Chg} {v : Int} (ht : ∀ x, x ∈ t → qD x.path = 0) (hce : yt c = 0) (hbad : yH t c = false) : ∀ x, x ∈ jq t c v → qD x.path = 0 := by
  obtain ⟨k1, k2, hpe, hto, -⟩ := yA hce
  intro x hx
  unfold jq at hx
  split at hx
  · rcases Ze hx with rfl | h
    · exact hpe
    · exact ht x h
  · split at hx
    · rcases Ze hx with rfl | h
      · exact hpe
      · exact ht x h
    · split at hx
      · exact ht x (List.mem_filter.1 hx).1
      · have k3 : c.kind = 3 := by omega
        rcases VK hx with h | h
        · obtain ⟨y, hy, rfl⟩ := List.mem_map.1 h
          obtain ⟨hy1, hy2⟩ := List.mem_filter.1 hy
          simp only [yH, k3, decide_true, Bool.true_and, List.any_eq_false] at hbad
          exact YH (ht y hy1) hpe (hto k3) hy2 (by simpa using hbad y hy)
        · exact ht x (List.mem_filter.1 h).1
theorem Yr {t : List Ent} {c : Chg} {v : Int} (hs : qt ya t = true) : qt ya (jq t c v) = true := by
  unfold jq
  split
  · exact kh hs
  · split
    · exact kh hs
    · split
      · exact zM hs
      · exact kc (zM hs)
theorem Jv (t : List Ent) (c : Chg) (v : Int) : (jq t c v).length ≤ 2 * t.length + 1 := by
  have h1 := fun x => qaD t x
  have h2 : (jV (zx c.path) t).length ≤ t.length := List.length_filter_le ..
  have h3 : (jv t c v).length ≤ t.length := by unfold jv; rw [List.length_map]; exact List.length_filter_le ..
  have h4 := Qr (jv t c v) (jV (zx c.path) t)
  unfold jq
  split
  · have := h1 ⟨c.path, true, [], v⟩; omega
  · split
    · have := h1 ⟨c.path, false, c.text, v⟩; omega
    · split <;> omega
theorem RightE.done {t : List Ent} {c : Chg} {v : Int} (h : RightE t) (hr : zQ t c v = 0) : RightE (jq t c v) := by
  unfold zQ at hr
  split at hr
  · contradiction
  · split at hr
    · contradiction
    · rename_i h1 h2
      obtain ⟨h3, h4⟩ := Wq hr
      exact ⟨Yr h.rise, WY h.paths (by simpa using h1) h3, by omega⟩
theorem qha (t : List Ent) (c : Chg) (v : Int) (h : RightE t) (hce : yt c = 0) (hbad : yH t c = false) :
    qm C1.P 175 [.os 0 0 t.length, .agg c.row, .v (.int .i64 v)] [.own false 4 (t.map Ent.row)] (ZY (yd t c v) (jq t c v).length) [.dead, .own false 4 ((jq t c v).map Ent.row)] := by
  obtain ⟨k1, k2, hpe, hto, -⟩ := yA hce
  have hf := h.few
  have hl := Jv t c v
  have hps := jp hpe
  by_cases h1 : c.kind = 1
  · exact qgG t c v (by omega) h.rise h1 (by omega)
  · by_cases h2 : c.kind = 2
    · exact qf8 t c v (by omega) h.rise h2 (by omega)
    · by_cases h4 : c.kind = 4
      · exact qf5 t c v (by omega) h4 (by omega)
      · have h3 : c.kind = 3 := by omega
        exact qbk t c v hf h3 h.paths hpe (hto h3) hbad h.rise
theorem YG {t : List Ent} {c : Chg} {v : Int} (h : ¬ zQ t c v = 0) : ZS t c v = [] := by unfold ZS; rw [if_neg h]
theorem qhD (t : List Ent) (c : Chg) (v : Int) (h : RightE t) (hcs : c.small) : jT C.P 149 [qp t, .agg c.row, .v (.int .i64 v)] (.tup [qp (ZS t c v), .v (.int .i64 (zQ t c v))]) := by
  have hf := h.few
  have h1 := qg2 c hcs
  have h2 := qhY t c (by omega) h.rise hcs
  have h3 := VB t (by omega)
  have hR : zQ t c v = if ¬ yt c = 0 then yt c else if ¬ zi t c = 0 then zi t c else yd t c v := rfl
  have hbadL := @YG t c v
  by_cases hce : yt c = 0
  · by_cases hme : zi t c = 0
    · have hR2 : zQ t c v = yd t c v := by rw [hR, if_neg (by simp [hce]), if_neg (by simp [hme])]
      rw [hce] at h1
      rw [hme] at h2
      cases hb : yH t c with
      | true =>
        obtain ⟨k1, k2, hpe, hto, -⟩ := yA hce
        have hk3 : c.kind = 3 := by
          simp [yH] at hb; exact hb.1
        have hE : yd t c v = 2 := by simp [yd, hb]
        have hd := qa2 t c v (by omega) hk3 h.paths hpe (hto hk3) hb
        rw [hE] at hR2
        rw [hbadL (by rw [hR2]; decide), hR2]
        refine qa Tryz.func149 rfl _ Tryz.ntmps149 (Nat.le_of_ble_eq_true rfl) _ Tryz.results149 0 rfl rfl ?_
        repeat' (first | refine qe ?_ | (first | refine xsF Tryz.func173 (h1 ..) ?_ | refine xsF Tryz.func174 (h2 ..) ?_ | (apply qH Tryz.func101 rfl rfl; intro hIsFn; refine yb ([]) hIsFn (h3 ..) ?_) | (apply qH Tryz.func175 rfl rfl; intro hIsFn; refine wI ([1]) 1 hIsFn (hd ..) ?_)) | ((first | refine xsC ?_ ?_); all_goals (intro hc; have hp := hc; try simp at hp; try (exfalso; omega))) | refine qv ?_ ?_)
        all_goals try (exfalso; omega)
        (exact yy (rs := [.tmp 6, .tmp 7]))
      | false =>
        have hd := qha t c v h hce hb
        by_cases hE : yd t c v = 0
        · have hL : ZS t c v = jq t c v := by unfold ZS; rw [if_pos (by rw [hR2, hE])]
          rw [hE] at hR2 hd
          rw [hL, hR2]
          generalize jq t c v = L at *
          have hd : qm C1.P 175 [.os 0 0 t.length, .agg c.row, .v (.int .i64 v)] [.own false 4 (t.map Ent.row)] (.tup [.os 1 0 L.length, .v (.int .i64 0)]) [.dead, .own false 4 (L.map Ent.row)] := hd
          refine qa Tryz.func149 rfl _ Tryz.ntmps149 (Nat.le_of_ble_eq_true rfl) _ Tryz.results149 0 rfl rfl ?_
          repeat' (first | refine qe ?_ | (first | refine xsF Tryz.func173 (h1 ..) ?_ | refine xsF Tryz.func174 (h2 ..) ?_ | (apply qH Tryz.func101 rfl rfl; intro hIsFn; refine yb ([]) hIsFn (h3 ..) ?_) | (apply qH Tryz.func175 rfl rfl; intro hIsFn; refine v7 ([1]) 1 hIsFn (hd ..) ?_)) | ((first | refine xsC ?_ ?_); all_goals (intro hc; have hp := hc; try simp at hp; try (exfalso; omega))) | refine qv ?_ ?_)
          all_goals try (exfalso; omega)
          (exact yy (rs := [.tmp 6, .tmp 7]))
        · rw [hbadL (by rw [hR2]; exact hE), hR2]
          generalize yd t c v = E at *
          generalize jq t c v = L at *
          have hd : qm C1.P 175 [.os 0 0 t.length, .agg c.row, .v (.int .i64 v)] [.own false 4 (t.map Ent.row)] (.tup [.sl true [], .v (.int .i64 E)]) [.dead, .own false 4 (L.map Ent.row)] := by
            rw [ZY, if_neg hE] at hd; exact hd
          refine qa Tryz.func149 rfl _ Tryz.ntmps149 (Nat.le_of_ble_eq_true rfl) _ Tryz.results149 0 rfl rfl ?_
          repeat' (first | refine qe ?_ | (first | refine xsF Tryz.func173 (h1 ..) ?_ | refine xsF Tryz.func174 (h2 ..) ?_ | (apply qH Tryz.func101 rfl rfl; intro hIsFn; refine yb ([]) hIsFn (h3 ..) ?_) | (apply qH Tryz.func175 rfl rfl; intro hIsFn; refine v7 ([1]) 1 hIsFn (hd ..) ?_)) | ((first | refine xsC ?_ ?_); all_goals (intro hc; have hp := hc; try simp at hp; try (exfalso; omega))) | refine qv ?_ ?_)
          all_goals try (exfalso; omega)
          (exact yy (rs := [.tmp 6, .tmp 7]))
    · have hR2 : zQ t c v = zi t c := by rw [hR, if_neg (by simp [hce]), if_pos hme]
      rw [hce] at h1
      rw [hbadL (by rw [hR2]; exact hme), hR2]
      generalize zi t c = E at *
      refine qa Tryz.func149 rfl _ Tryz.ntmps149 (Nat.le_of_ble_eq_true rfl) _ Tryz.results149 0 rfl rfl ?_
      repeat' (first | refine qe ?_ | (first | refine xsF Tryz.func173 (h1 ..) ?_ | refine xsF Tryz.func174 (h2 ..) ?_) | ((first | refine xsC ?_ ?_); all_goals (intro hc; have hp := hc; try simp at hp; try (exfalso; omega))) | refine qv ?_ ?_)
      all_goals try (exfalso; omega)
      (exact yy (rs := [.tmp 6, .tmp 7]))
  · have hR2 : zQ t c v = yt c := by rw [hR, if_pos hce]
    rw [hbadL (by rw [hR2]; exact hce), hR2]
    generalize yt c = E at *
    refine qa Tryz.func149 rfl _ Tryz.ntmps149 (Nat.le_of_ble_eq_true rfl) _ Tryz.results149 0 rfl rfl ?_
    repeat' (first | refine qe ?_ | (first | refine xsF Tryz.func173 (h1 ..) ?_) | ((first | refine xsC ?_ ?_); all_goals (intro hc; have hp := hc; try simp at hp; try (exfalso; omega))) | refine qv ?_ ?_)
    all_goals try (exfalso; omega)
    (exact yy (rs := [.tmp 6, .tmp 7]))
end Go.Proofs.YtiljlcgmcmjcoaaGreatDoor
set_option linter.unusedSimpArgs false
set_option linter.unnecessarySimpa false
set_option linter.unusedVariables false
namespace Go.Proofs.YtiljlcgmcmjcoaaGreatDoor
open Go.Op
def jr (t : List Ent) (p : qC) : Option Ent := t.find? (atP p)
theorem xf {t : List Ent} {p : qC} {x : Ent} (h : jr t p = some x) : x ∈ t ∧ x.path = p := by
  have h1 := List.mem_of_find?_eq_some h
  have h2 := List.find?_some h
  exact ⟨h1, by simpa [atP] using h2⟩
theorem zm {t : List Ent} {p : qC} : jr t p = none ↔ ∀ x, x ∈ t → ¬ x.path = p := by
  unfold jr
  rw [List.find?_eq_none]
  simp [atP]
theorem qaV {t : List Ent} (hs : qt ya t = true) {x y : Ent} (hx : x ∈ t) (hy : y ∈ t) (h : x.path = y.path) : x = y := by
  obtain ⟨i, hi, rfl⟩ := List.getElem_of_mem hx
  obtain ⟨j, hj, rfl⟩ := List.getElem_of_mem hy
  rcases Nat.lt_trichotomy i j with h1 | h1 | h1
  · have := zf hs i j hi hj h1
    rw [h, xH] at this; cases this
  · subst h1; rfl
  · have := zf hs j i hj hi h1
    rw [h, xH] at this; cases this
theorem V5 {t : List Ent} (hs : qt ya t = true) {x : Ent} (hx : x ∈ t) : jr t x.path = some x := by
  cases h : jr t x.path with
  | none => exact absurd rfl (zm.1 h x hx)
  | some y =>
    obtain ⟨h1, h2⟩ := xf h
    rw [qaV hs h1 hx h2]
theorem WE {t : List Ent} (hs : qt ya t = true) {p : qC} {x : Ent} : jr t p = some x ↔ x ∈ t ∧ x.path = p :=
  ⟨xf, fun ⟨h1, h2⟩ => h2 ▸ V5 hs h1⟩
theorem KR {t : List Ent} {x : Ent} (hs : qt ya t = true) (y : Ent) : y ∈ yO t x ↔ y = x ∨ (y ∈ t ∧ ¬ y.path = x.path) := by
  obtain ⟨A, M, Z, h, hp, hA, hZ, hM⟩ := KB x.path (vi.1 hs)
  rw [JQ h hp hM, h]
  have hA' : ∀ a, a ∈ A → ¬ a.path = x.path := fun a ha => Vx (hA a ha)
  have hZ' : ∀ a, a ∈ Z → ¬ a.path = x.path := fun a ha e => Vx (hZ a ha) e.symm
  simp only [List.mem_append, List.mem_singleton]
  constructor
  · rintro (h1 | h1 | h1)
    · exact .inr ⟨.inl h1, hA' y h1⟩
    · exact .inl h1
    · exact .inr ⟨.inr (.inr h1), hZ' y h1⟩
  · rintro (h1 | ⟨h1 | h1 | h1, h2⟩)
    · exact .inr (.inl h1)
    · exact .inl h1
    · rcases hM with ⟨_, z, rfl, hz⟩ | ⟨_, rfl⟩
      · rw [List.mem_singleton.1 h1] at h2; exact absurd hz h2
      · cases h1
    · exact .inr (.inr h1)
theorem Q1 {t : List Ent} {x : Ent} (hs : qt ya t = true) (p : qC) : jr (yO t x) p = if p = x.path then some x else jr t p := by
  have hr := kh (x := x) hs
  split
  · rename_i h
    rw [WE hr, KR hs]
    exact ⟨.inl rfl, h.symm⟩
  · rename_i h
    cases hl : jr t p with
    | none =>
      rw [zm] at hl ⊢
      intro y hy
      rcases (KR hs y).1 hy with rfl | ⟨h1, _⟩
      · exact fun e => h e.symm
      · exact hl y h1
    | some y =>
      obtain ⟨h1, h2⟩ := xf hl
      rw [WE hr, KR hs]
      exact ⟨.inr ⟨h1, by rw [h2]; exact h⟩, h2⟩
theorem Xf (t : List Ent) (q p : qC) : jr (jV (zx q) t) p = if inB p q = true then none else jr t p := by
  split
  · rename_i h
    rw [zm]
    intro x hx
    have := (List.mem_filter.1 hx).2
    intro e
    simp only [zx, e, h] at this
    exact absurd this (by decide)
  · rename_i h
    unfold jr jV
    rw [List.find?_filter]
    congr 1
    funext x
    by_cases hx : x.path = p
    · simp [atP, zx, hx, h]
    · simp [atP, hx]
theorem X8 : ∀ {l t : List Ent}, qt ya t = true → (l.Pairwise fun a b => ¬ a.path = b.path) → ∀ p, jr (l.foldl yO t) p = match jr l p with | some x => some x | none => jr t p
  | [], t, _, _, p => rfl
  | x :: l, t, hs, hd, p => by
    have hd1 := List.pairwise_cons.1 hd
    rw [List.foldl_cons, X8 (kh hs) hd1.2 p, Q1 hs]
    by_cases hp : p = x.path
    · subst hp
      have : jr l x.path = none := zm.2 fun y hy e => hd1.1 y hy e.symm
      rw [this]
      simp [jr, atP]
    · have h2 : jr (x :: l) p = jr l p := by
        unfold jr
        rw [List.find?_cons_of_neg]
        simp [atP]; exact fun e => hp e.symm
      rw [h2, if_neg hp]
theorem v8 {p q : qC} : inB p q = true ↔ ∃ r, p = q ++ r ∧ (r = [] ∨ r.head? = some 47) := by
  unfold inB
  rw [Bool.or_eq_true, decide_eq_true_eq, List.isPrefixOf_iff_prefix]
  constructor
  · rintro (rfl | ⟨s, h⟩)
    · exact ⟨[], by simp, .inl rfl⟩
    · exact ⟨47 :: s, by rw [← h]; simp, .inr rfl⟩
  · rintro ⟨r, rfl, rfl | h⟩
    · exact .inl (by simp)
    · cases r with
      | nil => exact .inl (by simp)
      | cons c r =>
        simp at h
        subst h
        exact .inr ⟨r, by simp⟩
theorem Jm {p q r : qC} (h1 : inB p q = true) (h2 : inB q r = true) : inB p r = true := by
  obtain ⟨a, rfl, ha⟩ := v8.1 h1
  obtain ⟨b, rfl, hb⟩ := v8.1 h2
  refine v8.2 ⟨b ++ a, by simp, ?_⟩
  cases b with
  | nil => simpa using ha
  | cons c b => right; simpa using hb
theorem qfr {p q : qC} (h1 : inB p q = true) (h2 : inB q p = true) : p = q := by
  obtain ⟨a, h, _⟩ := v8.1 h1
  obtain ⟨b, h', _⟩ := v8.1 h2
  have hl : a = [] := by
    have := congrArg List.length h
    have := congrArg List.length h'
    simp at *
    exact List.length_eq_zero_iff.1 (by omega)
  rw [h, hl]; simp
theorem Xt {p q : qC} : inB p q = true ↔ qk q <+: qk p := by rw [Vj, List.isPrefixOf_iff_prefix]
end Go.Proofs.YtiljlcgmcmjcoaaGreatDoor
set_option linter.unusedSimpArgs false
set_option linter.unnecessarySimpa false
set_option linter.unusedVariables false
namespace Go.Ab
theorem Wx {C : Cx} {ts : List (Nat × AV)} {hs : List (Nat × HB)} {nx : Nat} (i n : Nat) {off len : Nat} {rows : List (List AV)} (hi : qq ts i = .os n off len) (hn : ja hs n = .fz rows) (hl : off + len ≤ rows.length) : Red C ⟨ts, hs, nx⟩ ⟨(i, .sl false ((rows.drop off).take len)) :: ts, hs, nx⟩ := by
  intro B a w hB ⟨g1, g2, F, ρ, hp, g4⟩
  refine ⟨g1, g2, F, ρ, { kept := hp.kept, agree := hp.agree, grow := hp.grow, fresh := hp.fresh, names := hp.names, dom := hp.dom, own := hp.own, new := hp.new, sep := hp.sep }, fun m => ?_⟩
  show M F ρ _ (qq ((i, _) :: ts) m)
  rw [Qg]
  by_cases him : i = m
  · subst him
    rw [if_pos rfl]
    have h1 : M F ρ _ (qq ts i) := g4 i
    rw [hi] at h1
    have h2 : OwnAt F ρ w n (ja hs n) := hp.own n
    exact qby (L := []) (rh := [n]) (h := ja hs) hn (by simp) hl F ρ ρ w _ (fun m hm => by obtain rfl := List.mem_singleton.1 hm; exact h2) (fun a b hm c hc => by
      rcases hm with h | h
      · obtain rfl := h.2; exact hc
      · cases h) h1
  · rw [if_neg him]
    exact g4 m
end Go.Ab
set_option maxHeartbeats 1000000
namespace Go.Proofs.YtiljlcgmcmjcoaaGreatDoor
open Go.Ab Go.RowKit
set_option maxRecDepth 10000
attribute [local irreducible] Awp jZ jg qJ Red qz Go.Ab.Fin qm Rz y0 qB qG ResOk jG q9 jK qV
theorem Qq {t : List Ent} (h : jC t = 0) : t.length ≤ 60 ∧ (∀ x, x ∈ t → xa x = 0) ∧ qt ya t = true ∧ ∀ x, x ∈ t → yr t x = 0 := by
  unfold jC at h
  split at h
  · exact absurd h (by decide)
  · split at h
    · split at h
      · split at h
        · exact absurd h (by decide)
        · split at h
          · exact absurd h (by decide)
          · rename_i h1 h2 h3 h4 h5
            refine ⟨by omega, jE.1 h2, h3, fun x hx => ?_⟩
            have h6 : (t.any fun x => decide (¬ yr t x = 0)) = false := by simpa using h5
            rw [List.any_eq_false] at h6
            simpa using h6 x hx
      · exact absurd h (by decide)
    · contradiction
theorem vb {x : Ent} (h : xa x = 0) : qD x.path = 0 ∧ ¬ (x.fold = true ∧ ¬ x.text = []) ∧ x.text.length ≤ 300 ∧ vd x.ver = true := by
  unfold xa at h
  split at h
  · split at h
    · exact absurd h (by decide)
    · split at h
      · exact absurd h (by decide)
      · split at h
        · exact ⟨by assumption, by assumption, by omega, by assumption⟩
        · exact absurd h (by decide)
  · contradiction
theorem RightE.of {t : List Ent} (h : jC t = 0) : RightE t := by
  obtain ⟨h1, h2, h3, h4⟩ := Qq h
  exact ⟨h3, fun x hx => (vb (h2 x hx)).1, by omega⟩
end Go.Proofs.YtiljlcgmcmjcoaaGreatDoor
set_option linter.unusedSimpArgs false
set_option linter.unnecessarySimpa false
set_option linter.unusedVariables false
namespace Go.Proofs.YtiljlcgmcmjcoaaGreatDoor
open Go.Op
structure Right (t : List Ent) : Prop where
  len : t.length ≤ 60
  ent : ∀ x, x ∈ t → xa x = 0
  rise : qt ya t = true
  par : ∀ x, x ∈ t → yl t (qN x.path) = 0
theorem zZ {t : List Ent} : jC t = 0 ↔ Right t := by
  constructor
  · intro h
    obtain ⟨h1, h2, h3, h4⟩ := Qq h
    exact ⟨h1, h2, h3, h4⟩
  · intro h
    have h1 : ¬ 60 < t.length := by have := h.len; omega
    have h2 : t.any (fun x => decide (yr t x = 5)) = false := by
      rw [List.any_eq_false]; intro x hx
      have : yr t x = 0 := h.par x hx
      simp [this]
    have h3 : t.any (fun x => decide (¬ yr t x = 0)) = false := by
      rw [List.any_eq_false]; intro x hx
      have : yr t x = 0 := h.par x hx
      simp [this]
    unfold jC
    rw [if_neg h1, if_pos (jE.2 h.ent), if_pos h.rise, h2, h3]
    rfl
theorem xw {t : List Ent} {q : qC} : yl t q = 0 ↔ q = [] ∨ ∃ y, jr t q = some y ∧ y.fold = true := by
  unfold yl jr
  by_cases hq : q = []
  · simp [hq]
  · rw [if_neg hq]
    cases h : t.find? (atP q) with
    | none => simp [hq]
    | some x => cases hf : x.fold <;> simp [hq, hf]
theorem ku {p : qC} (h : qD p = 0) : ∀ n, n ∈ qk p → n ≠ [] := fun n hn e => by
  have := (kK.1 h).1 n hn
  rw [e, qbf] at this; cases this
theorem Xb {p : qC} (h : (qk p).dropLast ≠ []) : qk (qN p) = (qk p).dropLast := by
  obtain ⟨h1, h2⟩ := zl p
  rw [← h2]
  exact J8 h fun n hn => YT p n (List.dropLast_subset _ hn)
theorem qgf {p q : qC} (hp : qD p = 0) (hi : inB p q = true) (hne : ¬ q = p) : ¬ qN p = [] ∧ inB (qN p) q = true ∧ (qk (qN p)).length < (qk p).length := by
  have hpre := Xt.1 hi
  obtain ⟨s, hs⟩ := hpre
  have hsn : s ≠ [] := fun e => hne (by
    rw [e, List.append_nil] at hs
    rw [← xC q, hs, xC])
  have hdl : (qk p).dropLast = qk q ++ s.dropLast := by rw [← hs, List.dropLast_append_of_ne_nil hsn]
  have hdn : (qk p).dropLast ≠ [] := by
    rw [hdl]; intro e
    exact xD q (List.append_eq_nil_iff.1 e).1
  have hpn := Xb hdn
  refine ⟨fun e => ?_, ?_, ?_⟩
  · have hm : ([] : qC) ∈ qk (qN p) := by rw [e]; simp [qk]
    rw [hpn] at hm
    exact ku hp [] (List.dropLast_subset _ hm) rfl
  · rw [Xt, hpn, hdl]
    exact List.prefix_append _ _
  · rw [hpn, List.length_dropLast]
    have := names_pos' p
    omega
where names_pos' (p : qC) : 0 < (qk p).length := List.length_pos_iff.2 (xD p)
theorem qhv {p : qC} (hp : qD p = 0) : ¬ qN p = p := fun e => by
  obtain ⟨h1, h2⟩ := zl p
  have h3 : (qk p).dropLast ≠ [] ∨ (qk p).dropLast = [] := (Decidable.em _).symm
  rcases h3 with h3 | h3
  · have := Xb h3
    rw [e] at this
    have hl := congrArg List.length this
    rw [List.length_dropLast] at hl
    have := List.length_pos_iff.2 (xD p)
    omega
  · rw [h3] at h2
    have : p = [] := by rw [← e, ← h2]; rfl
    subst this
    exact ku hp [] (by simp [qk]) rfl
theorem qbu {p : qC} (hp : qD p = 0) (hne : ¬ qN p = []) : inB p (qN p) = true := by
  obtain ⟨h1, h2⟩ := zl p
  have hdn : (qk p).dropLast ≠ [] := fun e => hne (by rw [← h2, e]; rfl)
  rw [Xt, Xb hdn]
  exact List.dropLast_prefix _
theorem anc {t : List Ent} (h : Right t) : ∀ (n : Nat) (x : Ent), x ∈ t → (qk x.path).length = n → ∀ q, inB x.path q = true → ¬ q = x.path → ∃ y, jr t q = some y ∧ y.fold = true := by
  intro n
  induction n using Nat.strongRecOn with
  | _ n ih =>
    intro x hx hn q hi hne
    have hpe := (vb (h.ent x hx)).1
    obtain ⟨h1, h2, h3⟩ := qgf hpe hi hne
    rcases xw.1 (h.par x hx) with h4 | ⟨y, h4, h5⟩
    · exact absurd h4 h1
    · obtain ⟨h6, h7⟩ := xf h4
      by_cases hq : q = qN x.path
      · subst hq; exact ⟨y, h4, h5⟩
      · exact ih (qk y.path).length (by rw [h7]; omega) y h6 rfl q (by rw [h7]; exact h2) (by rw [h7]; exact hq)
theorem qgD {t : List Ent} (h : Right t) {q p : qC} (hq : jr t q = none) (hi : inB p q = true) : jr t p = none := by
  cases hl : jr t p with
  | none => rfl
  | some x =>
    obtain ⟨h1, h2⟩ := xf hl
    by_cases e : q = p
    · subst e; rw [hq] at hl; cases hl
    · obtain ⟨y, h3, _⟩ := anc h _ x h1 rfl q (by rw [h2]; exact hi) (by rw [h2]; exact e)
      rw [hq] at h3; cases h3
theorem ZG {u : List Ent} (hs : qt ya u = true) (hl : u.length ≤ 60) (h : ∀ p x, jr u p = some x → xa x = 0 ∧ (qN p = [] ∨ ∃ y, jr u (qN p) = some y ∧ y.fold = true)) : Right u :=
  ⟨hl, fun x hx => (h _ x (V5 hs hx)).1, hs, fun x hx => xw.2 (h _ x (V5 hs hx)).2⟩
theorem qet {t : List Ent} {c : Chg} (h : zi t c = 0) : yl t (qN (jL c)) = 0 ∧ vY t c = 0 ∧ kf t c = 0 ∧ yc t c = 0 := by
  unfold zi at h
  split at h
  · contradiction
  · split at h
    · contradiction
    · split at h
      · contradiction
      · exact ⟨by omega, by omega, by omega, h⟩
theorem qfj {t : List Ent} {c : Chg} {v : Int} (h : zQ t c v = 0) : yt c = 0 ∧ zi t c = 0 ∧ yd t c v = 0 := by
  unfold zQ at h
  split at h
  · contradiction
  · split at h
    · contradiction
    · exact ⟨by omega, by omega, h⟩
def YI (c : Chg) (p : qC) : qC := c.path ++ p.drop c.to.length
theorem qcZ {c : Chg} {p : qC} (h : inB p c.to = true) : ∃ r, p = c.to ++ r ∧ YI c p = c.path ++ r ∧ inB (YI c p) c.path = true ∧ (r = [] ∨ r.head? = some 47) := by
  obtain ⟨r, rfl, hr⟩ := v8.1 h
  have hb : YI c (c.to ++ r) = c.path ++ r := by simp [YI]
  exact ⟨r, rfl, hb, by rw [hb]; exact v8.2 ⟨r, rfl, hr⟩, hr⟩
theorem V8 {t : List Ent} {c : Chg} {v : Int} {y : Ent} (h : y ∈ jv t c v) : ∃ x r, x ∈ t ∧ x.path = c.path ++ r ∧ (r = [] ∨ r.head? = some 47) ∧ y = yL c v x ∧ y.path = c.to ++ r := by
  obtain ⟨x, hx, rfl⟩ := List.mem_map.1 h
  obtain ⟨hx1, hx2⟩ := List.mem_filter.1 hx
  obtain ⟨r, hr, hr2⟩ := v8.1 hx2
  exact ⟨x, r, hx1, hr, hr2, rfl, by simp [yL, hr]⟩
theorem qdG {t : List Ent} {c : Chg} {v : Int} (hs : qt ya t = true) (p : qC) : jr (jv t c v) p = if inB p c.to = true then (jr t (YI c p)).map (yL c v) else none := by
  split
  · rename_i h
    obtain ⟨r, rfl, hb, hbi, hr⟩ := qcZ (c := c) h
    rw [hb] at hbi ⊢
    cases hl : jr t (c.path ++ r) with
    | none =>
      rw [Option.map_none, zm]
      intro y hy e
      obtain ⟨x, r', h1, h2, _, _, h3⟩ := V8 hy
      rw [h3] at e
      have := List.append_cancel_left e
      subst this
      exact zm.1 hl x h1 h2
    | some x =>
      obtain ⟨h1, h2⟩ := xf hl
      rw [Option.map_some]
      have hm : yL c v x ∈ jv t c v := List.mem_map.2 ⟨x, List.mem_filter.2 ⟨h1, by unfold zx; rw [h2]; exact hbi⟩, rfl⟩
      have hp : (yL c v x).path = c.to ++ r := by simp [yL, h2]
      cases hf : jr (jv t c v) (c.to ++ r) with
      | none => exact absurd hp (zm.1 hf _ hm)
      | some y =>
        obtain ⟨h3, h4⟩ := xf hf
        obtain ⟨x', r', h5, h6, _, h7, h8⟩ := V8 h3
        rw [h8] at h4
        have := List.append_cancel_left h4
        subst this
        rw [h7, qaV hs h1 h5 (by rw [h2, h6])]
  · rename_i h
    rw [zm]
    intro y hy e
    obtain ⟨x, r, h1, h2, h3, _, h4⟩ := V8 hy
    exact h (v8.2 ⟨r, by rw [← e, h4], h3⟩)
theorem qbe {t : List Ent} {c : Chg} {v : Int} (hs : qt ya t = true) : (jv t c v).Pairwise fun a b => ¬ a.path = b.path := by
  unfold jv
  rw [List.pairwise_map]
  have h1 : (t.filter (zx c.path)).Pairwise (fun a b => bytesLess a.path b.path = true) := (vi.1 hs).sublist List.filter_sublist
  refine h1.imp_of_mem fun {a b} ha hb hlt => ?_
  obtain ⟨r, hr, _⟩ := v8.1 (List.mem_filter.1 ha).2
  obtain ⟨s, hs', _⟩ := v8.1 (List.mem_filter.1 hb).2
  intro e
  simp only [yL, hr, hs', List.drop_left] at e
  have := List.append_cancel_left e
  rw [hr, hs', this, xH] at hlt
  cases hlt
theorem qdn {t : List Ent} {c : Chg} {v : Int} (h : Right t) (hk : c.kind = 3) (hto : jr t c.to = none) (p : qC) : jr (jq t c v) p = if inB p c.to = true then (jr t (YI c p)).map (yL c v) else if inB p c.path = true then none else jr t p := by
  have hD : jq t c v = (jv t c v).foldl yO (jV (zx c.path) t) := by simp [jq, hk]
  rw [hD, X8 (zM h.rise) (qbe h.rise), qdG h.rise, Xf]
  by_cases hi : inB p c.to = true
  · rw [if_pos hi, if_pos hi]
    cases hl : jr t (YI c p) with
    | some x => rfl
    | none =>
      rw [Option.map_none]
      have := qgD h hto hi
      simp [this]
  · rw [if_neg hi, if_neg hi]
theorem qgr {a r : qC} : ∃ s, (∀ b : qC, qN (b ++ 47 :: r) = b ++ s) ∧ (s = [] ∨ s.head? = some 47) := by
  rcases Jh (c := 47) r with h | ⟨r1, r2, rfl, h⟩
  · exact ⟨[], fun b => by rw [(Kz h).1]; simp, .inl rfl⟩
  · refine ⟨47 :: r1, fun b => ?_, .inr rfl⟩
    have := (Kz (a := b ++ 47 :: r1) h).1
    rw [← this]; simp
theorem qev {c : Chg} (h : yt c = 0) : c.text.length ≤ 300 := by
  have := (yA h).2.2.2.2
  unfold z8 at this
  split at this
  · exact absurd this (by decide)
  · split at this
    · exact absurd this (by decide)
    · omega
theorem qbT {p : qC} {f : Bool} {s : qC} {v : Int} (h1 : qD p = 0) (h2 : f = true → s = []) (h3 : s.length ≤ 300) (h4 : vd v = true) : xa ⟨p, f, s, v⟩ = 0 := by
  unfold xa
  simp only
  rw [if_pos h1, if_neg (fun e => e.2 (h2 e.1)), if_neg (by omega), if_pos h4]
theorem qcj {t : List Ent} {c : Chg} {v : Int} (h : Right t) (hv : vd v = true) (hr : zQ t c v = 0) : Right (jq t c v) := by
  obtain ⟨hc0, hm0, hd0⟩ := qfj hr
  obtain ⟨k1, k2, hpe, hte, -⟩ := yA hc0
  obtain ⟨hf, hi, hmv, -⟩ := qet hm0
  obtain ⟨hb, h60⟩ := Wq hd0
  have hs := Yr (c := c) (v := v) h.rise
  have htx := qev hc0
  refine ZG hs h60 fun p x hx => ?_
  by_cases e1 : c.kind = 1
  · have hD : jq t c v = yO t ⟨c.path, true, [], v⟩ := by simp [jq, e1]
    have hg : jL c = c.path := by simp [jL, e1]
    rw [hg] at hf
    rw [hD, Q1 h.rise] at hx
    have key : ∀ q, (∃ y, jr t q = some y ∧ y.fold = true) → ∃ y, jr (jq t c v) q = some y ∧ y.fold = true := fun q ⟨y, h1, h2⟩ => by
      rw [hD, Q1 h.rise]
      split
      · exact ⟨_, rfl, rfl⟩
      · exact ⟨y, h1, h2⟩
    split at hx
    · rename_i hp
      injection hx with hx
      subst hx; subst hp
      exact ⟨qbT hpe (fun _ => rfl) (by simp) hv, (xw.1 hf).imp id (key _)⟩
    · obtain ⟨h1, h2⟩ := xf hx
      refine ⟨h.ent x h1, ?_⟩
      have := xw.1 (h.par x h1)
      rw [h2] at this
      exact this.imp id (key _)
  · by_cases e2 : c.kind = 2
    · have hD : jq t c v = yO t ⟨c.path, false, c.text, v⟩ := by simp [jq, e2]
      have hg : jL c = c.path := by simp [jL, e2]
      rw [hg] at hf
      rw [hD, Q1 h.rise] at hx
      have hfa : ∀ y, jr t c.path = some y → y.fold = false := fun y hy => by
        unfold vY at hi
        rw [if_neg e1, if_pos e2] at hi
        unfold xI at hi
        rw [show t.find? (atP c.path) = some y from hy] at hi
        cases hyf : y.fold with
        | false => rfl
        | true => simp [hyf] at hi
      have key : ∀ q, (∃ y, jr t q = some y ∧ y.fold = true) → ∃ y, jr (jq t c v) q = some y ∧ y.fold = true := fun q ⟨y, h1, h2⟩ => by
        rw [hD, Q1 h.rise]
        split
        · rename_i e
          simp only at e
          rw [e] at h1
          rw [hfa y h1] at h2; cases h2
        · exact ⟨y, h1, h2⟩
      split at hx
      · rename_i hp
        injection hx with hx
        subst hx; subst hp
        exact ⟨qbT hpe (fun e => by cases e) htx hv, (xw.1 hf).imp id (key _)⟩
      · obtain ⟨h1, h2⟩ := xf hx
        refine ⟨h.ent x h1, ?_⟩
        have := xw.1 (h.par x h1)
        rw [h2] at this
        exact this.imp id (key _)
    · by_cases e4 : c.kind = 4
      · have hD : jq t c v = jV (zx c.path) t := by simp [jq, e4]
        rw [hD, Xf] at hx
        split at hx
        · cases hx
        · rename_i hin
          obtain ⟨h1, h2⟩ := xf hx
          refine ⟨h.ent x h1, ?_⟩
          have hxe := (vb (h.ent x h1)).1
          have := xw.1 (h.par x h1)
          rw [h2] at this hxe
          rcases this with h3 | ⟨y, h3, h4⟩
          · exact .inl h3
          · refine .inr ⟨y, ?_, h4⟩
            rw [hD, Xf, if_neg]
            · exact h3
            · intro h5
              have hne : ¬ qN p = [] := fun e => by
                rw [e] at h3
                obtain ⟨h6, h7⟩ := xf h3
                have := (vb (h.ent y h6)).1
                rw [h7] at this
                exact ku this [] (by simp [qk]) rfl
              exact hin (Jm (qbu hxe hne) h5)
      · have e3 : c.kind = 3 := by omega
        have hpt := hte e3
        have hg : jL c = c.to := by simp [jL, e3]
        rw [hg] at hf
        have hM : kf t c = if inB c.to c.path = true then 3 else if yB t c.to = true then 6 else 0 := by unfold kf; rw [if_pos e3]
        rw [hmv] at hM
        have hin0 : inB c.to c.path = false := by
          cases h0 : inB c.to c.path with
          | true => rw [h0] at hM; simp at hM
          | false => rfl
        rw [hin0, if_neg (by decide)] at hM
        have hhit : yB t c.to = false := by
          cases h0 : yB t c.to with
          | true => rw [h0] at hM; simp at hM
          | false => rfl
        have hto : jr t c.to = none := (xx hhit).1
        have hlm := qdn (v := v) h e3 hto
        rw [hlm] at hx
        have nonil : ∀ q y, jr t q = some y → ¬ q = [] := fun q y hy e => by
          obtain ⟨h6, h7⟩ := xf hy
          have := (vb (h.ent y h6)).1
          rw [h7, e] at this
          exact ku this [] (by simp [qk]) rfl
        split at hx
        · rename_i hi2
          obtain ⟨r, rfl, hb2, hbi, hr2⟩ := qcZ (c := c) hi2
          rw [hb2] at hx hbi
          obtain ⟨x0, hx0, rfl⟩ := Option.map_eq_some_iff.1 hx
          obtain ⟨h1, h2⟩ := xf hx0
          have he0 := vb (h.ent x0 h1)
          refine ⟨?_, ?_⟩
          · have hpm : qD (yL c v x0).path = 0 := by
              refine YH he0.1 hpe hpt (by rw [h2]; exact hbi) ?_
              simp only [yH, e3, decide_true, Bool.true_and, List.any_eq_false] at hb
              simpa using hb x0 (List.mem_filter.2 ⟨h1, by unfold zx; rw [h2]; exact hbi⟩)
            refine qbT hpm (fun e => ?_) he0.2.2.1 ?_
            · cases hs0 : x0.text with
              | nil => rfl
              | cons a s => exact absurd ⟨e, by rw [hs0]; simp⟩ he0.2.1
            · split
              · exact hv
              · exact he0.2.2.2
          · rcases hr2 with rfl | hr2
            · rw [List.append_nil]
              rcases xw.1 hf with h3 | ⟨y, h3, h4⟩
              · exact .inl h3
              · refine .inr ⟨y, ?_, h4⟩
                have hne := nonil _ y h3
                have hpi := qbu hpt hne
                rw [hlm, if_neg, if_neg]
                · exact h3
                · intro h5
                  have := Jm hpi h5
                  rw [hin0] at this; cases this
                · intro h5
                  exact qhv hpt (qfr h5 hpi)
            · cases r with
              | nil => cases hr2
              | cons a r =>
                simp at hr2
                subst hr2
                obtain ⟨s, hs1, hs2⟩ := qgr (a := c.to) (r := r)
                have hp0 := xw.1 (h.par x0 h1)
                rw [h2, hs1 c.path] at hp0
                rcases hp0 with h3 | ⟨y, h3, h4⟩
                · have : c.path = [] := (List.append_eq_nil_iff.1 h3).1
                  rw [this] at hpe
                  exact absurd rfl (ku hpe [] (by simp [qk]))
                · refine .inr ⟨yL c v y, ?_, h4⟩
                  have hin3 : inB (c.to ++ s) c.to = true := v8.2 ⟨s, rfl, hs2⟩
                  rw [hs1 c.to, hlm, if_pos hin3, show YI c (c.to ++ s) = c.path ++ s from by simp [YI], h3]
                  rfl
        · rename_i hi2
          split at hx
          · cases hx
          · rename_i hi3
            obtain ⟨h1, h2⟩ := xf hx
            refine ⟨h.ent x h1, ?_⟩
            have hxe := (vb (h.ent x h1)).1
            have := xw.1 (h.par x h1)
            rw [h2] at this hxe
            rcases this with h3 | ⟨y, h3, h4⟩
            · exact .inl h3
            · have hpi := qbu hxe (nonil _ y h3)
              refine .inr ⟨y, ?_, h4⟩
              rw [hlm, if_neg (fun h5 => hi2 (Jm hpi h5)), if_neg (fun h5 => hi3 (Jm hpi h5))]
              exact h3
theorem Right.big {t : List Ent} (h : Right t) : EBig t := ⟨fun x hx => by
  have h1 := vb (h.ent x hx)
  have h2 := jp h1.1
  exact ⟨by omega, by omega⟩, by have := h.len; omega⟩
end Go.Proofs.YtiljlcgmcmjcoaaGreatDoor
set_option linter.unusedSimpArgs false
set_option linter.unnecessarySimpa false
set_option linter.unusedVariables false
set_option maxHeartbeats 1000000
namespace Go.Proofs.YtiljlcgmcmjcoaaGreatDoor
open Go.Ab Go.RowKit
set_option maxRecDepth 10000
attribute [local irreducible] Awp jZ jg qJ Red qz Go.Ab.Fin qm Rz y0 qB qG ResOk jG q9 jK qV
theorem vp (o : List Ent) (r s : List AV) {y z : Ent} (hr : r = y.row := by rfl) (hs : s = z.row := by rfl) : (((o.map Ent.row).take o.length ++ [r]).take (o.length + 1)) ++ [s] = (o ++ ([y] ++ [z])).map Ent.row := by
  subst hr; subst hs
  have e1 : (o.map Ent.row).take o.length = o.map Ent.row := List.take_of_length_le (by simp)
  rw [e1, List.take_of_length_le (by simp)]
  simp
theorem wJ (t : List Ent) (x : Ent) (hl : t.length ≤ 400000) : jT C.P 163 [qp t, .agg x.row] (qp (WI t x)) := by
  refine qa Tryz.func163 rfl _ Tryz.ntmps163 (Nat.le_of_ble_eq_true rfl) _ Tryz.results163 0 rfl rfl ?_
  repeat' (first | refine qe ?_ | fail | ((first | refine qb ?_ ?_ | refine qc ?_ ?_ | refine xsC ?_ ?_); all_goals (intro hc; have hp := hc; try simp at hp; try (exfalso; omega))) | refine qv ?_ ?_)
  refine Awp.red (vN 5 4 rfl (Nat.zero_le _)) ?_
  (refine Awp.red (jt (τ := ⟨[(0, qp t), (3, .op 0 0 0), (5, .os 1 0 0), (6, .v (.bool false)), (7, .v (.int .i64 ((0 : Nat) : Int)))], [(0, .own false 4 [x.row]), (1, .own false 4 [])], 2⟩) [(0, 0), (1, 1)] rfl ?gts ?ghs) ?gmain; (case gts => (repeat (first | exact qd | refine qi ?_ | refine x8 ?_ | refine vo ?_ | refine qL ?_ ?_)); all_goals skip); (case ghs => (repeat (first | exact qh | refine jU ?_ | refine qO ?_ ?_))))
  refine qr (fun n σ => ∃ i : Nat, i ≤ t.length ∧ n = t.length - i ∧ (True) ∧ σ = ⟨[(0, qp t), (3, .op 0 0 0), (5, .os 1 0 (vA (t.take i) x).1.length), (6, .v (.bool (vA (t.take i) x).2)), (7, .v (.int .i64 (i : Int)))], [(0, .own false 4 [x.row]), (1, .own false 4 ((vA (t.take i) x).1.map Ent.row))], 2⟩) t.length ⟨0, Nat.zero_le _, rfl, trivial, rfl⟩ ?_
  rintro n σ ⟨i, hi, rfl, -, rfl⟩
  have hgl := qfR (t.take i) x
  have htl : (t.take i).length ≤ t.length := by simp; omega
  by_cases hlt : i < t.length
  · have hr := qx (f := Ent.row) hlt
    have hgs := @qdo t x i hlt
    generalize vA (t.take i) x = G at *
    obtain ⟨o, b⟩ := G
    simp only [xp] at hgs
    have hgl : o.length ≤ 2 * (t.take i).length := hgl
    cases b <;> cases hless : Op.bytesLess t[i].path x.path <;> by_cases hpe : t[i].path = x.path
    all_goals try (exfalso; rw [hpe, xH] at hless; exact absurd hless (by decide))
    all_goals simp only [hless, hpe, xH, if_true, if_false, and_true, and_false, and_self, Bool.false_or, Bool.true_or, Bool.not_true, Bool.not_false, List.append_nil, Bool.true_eq_false, Bool.false_eq_true, List.append_assoc] at hgs
    all_goals (
      repeat' (first | refine qe ?_ | (first | (refine j4 ?_) | (refine xK ?_)) | ((first | refine qb ?_ ?_ | refine qc ?_ ?_ | refine xsC ?_ ?_); all_goals (intro hc; have hp := hc; try simp at hp; try (exfalso; omega))) | refine qv ?_ ?_))
    all_goals try (exfalso; first | omega | contradiction | (simp_all; done))
    · refine ⟨t.length - (i + 1), _, by omega, jt (τ := ⟨[(0, qp t), (3, .op 0 0 0), (5, .os 1 0 (vA (t.take (i + 1)) x).1.length), (6, .v (.bool (vA (t.take (i + 1)) x).2)), (7, .v (.int .i64 ((i + 1 : Nat) : Int)))], [(0, .own false 4 [x.row]), (1, .own false 4 ((vA (t.take (i + 1)) x).1.map Ent.row))], 2⟩) [(0, 0), (2, 1)] rfl ?gts ?ghs, i + 1, by omega, rfl, trivial, rfl⟩; (case gts => (repeat (first | exact qd | refine qi ?_ | refine x8 ?_ | refine vo ?_ | refine qL ?_ ?_)); all_goals (rw [hgs]; try first | (simp only [List.length_append, List.length_cons, List.length_nil, List.map_append, List.map_cons, List.map_nil, List.append_assoc, List.cons_append, List.nil_append]; done) | (rw [List.take_of_length_le (by simp)]; simp; done) | (simp; done) | exact vp o x.row _)); (case ghs => (repeat (first | exact qh | refine jU ?_ | refine qO ?_ ?_)); all_goals (rw [hgs]; try first | (simp only [List.length_append, List.length_cons, List.length_nil, List.map_append, List.map_cons, List.map_nil, List.append_assoc, List.cons_append, List.nil_append]; done) | (rw [List.take_of_length_le (by simp)]; simp; done) | (simp; done) | exact vp o x.row _))
    · refine ⟨t.length - (i + 1), _, by omega, jt (τ := ⟨[(0, qp t), (3, .op 0 0 0), (5, .os 1 0 (vA (t.take (i + 1)) x).1.length), (6, .v (.bool (vA (t.take (i + 1)) x).2)), (7, .v (.int .i64 ((i + 1 : Nat) : Int)))], [(0, .own false 4 [x.row]), (1, .own false 4 ((vA (t.take (i + 1)) x).1.map Ent.row))], 2⟩) [(0, 0), (3, 1)] rfl ?gts ?ghs, i + 1, by omega, rfl, trivial, rfl⟩; (case gts => (repeat (first | exact qd | refine qi ?_ | refine x8 ?_ | refine vo ?_ | refine qL ?_ ?_)); all_goals (rw [hgs]; try first | (simp only [List.length_append, List.length_cons, List.length_nil, List.map_append, List.map_cons, List.map_nil, List.append_assoc, List.cons_append, List.nil_append]; done) | (rw [List.take_of_length_le (by simp)]; simp; done) | (simp; done) | exact vp o x.row _)); (case ghs => (repeat (first | exact qh | refine jU ?_ | refine qO ?_ ?_)); all_goals (rw [hgs]; try first | (simp only [List.length_append, List.length_cons, List.length_nil, List.map_append, List.map_cons, List.map_nil, List.append_assoc, List.cons_append, List.nil_append]; done) | (rw [List.take_of_length_le (by simp)]; simp; done) | (simp; done) | exact vp o x.row _))
    · refine ⟨t.length - (i + 1), _, by omega, jt (τ := ⟨[(0, qp t), (3, .op 0 0 0), (5, .os 1 0 (vA (t.take (i + 1)) x).1.length), (6, .v (.bool (vA (t.take (i + 1)) x).2)), (7, .v (.int .i64 ((i + 1 : Nat) : Int)))], [(0, .own false 4 [x.row]), (1, .own false 4 ((vA (t.take (i + 1)) x).1.map Ent.row))], 2⟩) [(0, 0), (2, 1)] rfl ?gts ?ghs, i + 1, by omega, rfl, trivial, rfl⟩; (case gts => (repeat (first | exact qd | refine qi ?_ | refine x8 ?_ | refine vo ?_ | refine qL ?_ ?_)); all_goals (rw [hgs]; try first | (simp only [List.length_append, List.length_cons, List.length_nil, List.map_append, List.map_cons, List.map_nil, List.append_assoc, List.cons_append, List.nil_append]; done) | (rw [List.take_of_length_le (by simp)]; simp; done) | (simp; done) | exact vp o x.row _)); (case ghs => (repeat (first | exact qh | refine jU ?_ | refine qO ?_ ?_)); all_goals (rw [hgs]; try first | (simp only [List.length_append, List.length_cons, List.length_nil, List.map_append, List.map_cons, List.map_nil, List.append_assoc, List.cons_append, List.nil_append]; done) | (rw [List.take_of_length_le (by simp)]; simp; done) | (simp; done) | exact vp o x.row _))
    · refine ⟨t.length - (i + 1), _, by omega, jt (τ := ⟨[(0, qp t), (3, .op 0 0 0), (5, .os 1 0 (vA (t.take (i + 1)) x).1.length), (6, .v (.bool (vA (t.take (i + 1)) x).2)), (7, .v (.int .i64 ((i + 1 : Nat) : Int)))], [(0, .own false 4 [x.row]), (1, .own false 4 ((vA (t.take (i + 1)) x).1.map Ent.row))], 2⟩) [(0, 0), (1, 1)] rfl ?gts ?ghs, i + 1, by omega, rfl, trivial, rfl⟩; (case gts => (repeat (first | exact qd | refine qi ?_ | refine x8 ?_ | refine vo ?_ | refine qL ?_ ?_)); all_goals (rw [hgs]; try first | (simp only [List.length_append, List.length_cons, List.length_nil, List.map_append, List.map_cons, List.map_nil, List.append_assoc, List.cons_append, List.nil_append]; done) | (rw [List.take_of_length_le (by simp)]; simp; done) | (simp; done) | exact vp o x.row _)); (case ghs => (repeat (first | exact qh | refine jU ?_ | refine qO ?_ ?_)); all_goals (rw [hgs]; try first | (simp only [List.length_append, List.length_cons, List.length_nil, List.map_append, List.map_cons, List.map_nil, List.append_assoc, List.cons_append, List.nil_append]; done) | (rw [List.take_of_length_le (by simp)]; simp; done) | (simp; done) | exact vp o x.row _))
    · refine ⟨t.length - (i + 1), _, by omega, jt (τ := ⟨[(0, qp t), (3, .op 0 0 0), (5, .os 1 0 (vA (t.take (i + 1)) x).1.length), (6, .v (.bool (vA (t.take (i + 1)) x).2)), (7, .v (.int .i64 ((i + 1 : Nat) : Int)))], [(0, .own false 4 [x.row]), (1, .own false 4 ((vA (t.take (i + 1)) x).1.map Ent.row))], 2⟩) [(0, 0), (2, 1)] rfl ?gts ?ghs, i + 1, by omega, rfl, trivial, rfl⟩; (case gts => (repeat (first | exact qd | refine qi ?_ | refine x8 ?_ | refine vo ?_ | refine qL ?_ ?_)); all_goals (rw [hgs]; try first | (simp only [List.length_append, List.length_cons, List.length_nil, List.map_append, List.map_cons, List.map_nil, List.append_assoc, List.cons_append, List.nil_append]; done) | (rw [List.take_of_length_le (by simp)]; simp; done) | (simp; done) | exact vp o x.row _)); (case ghs => (repeat (first | exact qh | refine jU ?_ | refine qO ?_ ?_)); all_goals (rw [hgs]; try first | (simp only [List.length_append, List.length_cons, List.length_nil, List.map_append, List.map_cons, List.map_nil, List.append_assoc, List.cons_append, List.nil_append]; done) | (rw [List.take_of_length_le (by simp)]; simp; done) | (simp; done) | exact vp o x.row _))
    · refine ⟨t.length - (i + 1), _, by omega, jt (τ := ⟨[(0, qp t), (3, .op 0 0 0), (5, .os 1 0 (vA (t.take (i + 1)) x).1.length), (6, .v (.bool (vA (t.take (i + 1)) x).2)), (7, .v (.int .i64 ((i + 1 : Nat) : Int)))], [(0, .own false 4 [x.row]), (1, .own false 4 ((vA (t.take (i + 1)) x).1.map Ent.row))], 2⟩) [(0, 0), (2, 1)] rfl ?gts ?ghs, i + 1, by omega, rfl, trivial, rfl⟩; (case gts => (repeat (first | exact qd | refine qi ?_ | refine x8 ?_ | refine vo ?_ | refine qL ?_ ?_)); all_goals (rw [hgs]; try first | (simp only [List.length_append, List.length_cons, List.length_nil, List.map_append, List.map_cons, List.map_nil, List.append_assoc, List.cons_append, List.nil_append]; done) | (rw [List.take_of_length_le (by simp)]; simp; done) | (simp; done) | exact vp o x.row _)); (case ghs => (repeat (first | exact qh | refine jU ?_ | refine qO ?_ ?_)); all_goals (rw [hgs]; try first | (simp only [List.length_append, List.length_cons, List.length_nil, List.map_append, List.map_cons, List.map_nil, List.append_assoc, List.cons_append, List.nil_append]; done) | (rw [List.take_of_length_le (by simp)]; simp; done) | (simp; done) | exact vp o x.row _))
  obtain rfl : i = t.length := by omega
  rw [List.take_length] at *
  have hR : WI t x = if (vA t x).2 = true then (vA t x).1 else (vA t x).1 ++ [x] := rfl
  generalize vA t x = G at *
  obtain ⟨o, b⟩ := G
  have hgl : o.length ≤ 2 * t.length := hgl
  cases b
  · have hR : WI t x = o ++ [x] := hR
    rw [hR]
    repeat' (first | refine qe ?_ | (first | (refine j4 ?_) | (refine xK ?_)) | ((first | refine qb ?_ ?_ | refine qc ?_ ?_ | refine xsC ?_ ?_); all_goals (intro hc; have hp := hc; try simp at hp; try (exfalso; omega))) | refine qv ?_ ?_)
    all_goals try (exfalso; omega)
    (refine yP (rs := [.tmp 4]) ?_; (repeat' (first | exact qT | apply ql | exact qM rfl | exact yC | exact zB | apply j8 | apply yI | apply j3 | apply yJ | apply yj | apply yK | refine zA ?_ | apply xG)); all_goals (show (o.map Ent.row).take o.length ++ [x.row] = _; rw [List.take_of_length_le (by simp)]; simp))
  · have hR : WI t x = o := hR
    rw [hR]
    repeat' (first | refine qe ?_ | (first | (refine j4 ?_) | (refine xK ?_)) | ((first | refine qb ?_ ?_ | refine qc ?_ ?_ | refine xsC ?_ ?_); all_goals (intro hc; have hp := hc; try simp at hp; try (exfalso; omega))) | refine qv ?_ ?_)
    all_goals try (exfalso; omega)
    (exact yy (rs := [.tmp 4]))
theorem qgm : qdw C.P 72 = some [1, 2, 1, 0] := by kernel_rfl
theorem qdk (a b : Ent) : w7 [1, 2, 1, 0] a.row b.row = some (decide (a = b)) := by
  obtain ⟨a1, a2, a3, a4⟩ := a
  obtain ⟨b1, b2, b3, b4⟩ := b
  simp only [Ent.row, w7, Qh, str, Ent.mk.injEq, if_true, Option.some.injEq]
  by_cases h1 : a1 = b1 <;> by_cases h2 : a2 = b2 <;> by_cases h3 : a3 = b3 <;> by_cases h4 : a4 = b4 <;> simp [h1, h2, h3, h4]
theorem Xj {α : Type} {a b : List α} {i : Nat} (h1 : i < a.length) (h2 : i < b.length) (h : a.take i = b.take i) (h3 : a[i] = b[i]) : a.take (i + 1) = b.take (i + 1) := by
  rw [List.take_succ_eq_append_getElem h1, List.take_succ_eq_append_getElem h2, h, h3]
theorem wS (a b : List Ent) (ha : a.length ≤ 1000000000) (hb : b.length ≤ 1000000000) : jT C.P 22 [qp a, qp b] (.v (.bool (decide (a = b)))) := by
  have hma : (a.map Ent.row).length = a.length := List.length_map ..
  have hmb : (b.map Ent.row).length = b.length := List.length_map ..
  refine qa Tryz.func22 rfl _ Tryz.ntmps22 (Nat.le_of_ble_eq_true rfl) _ Tryz.results22 0 rfl rfl ?_
  repeat' (first | refine qe ?_ | fail | ((first | refine xsC ?_ ?_); all_goals (intro hc; have hp := hc; try simp at hp; try (exfalso; omega))) | refine qv ?_ ?_)
  · apply qU
    rfl
    have hne : ¬ a = b := fun e => by subst e; simp at *
    simp [hne]
  have hab : a.length = b.length := by simp at *; omega
  (refine Awp.red (qf (ts := [(0, qp a), (1, qp b), (5, .v (.int .i64 ((0 : Nat) : Int)))]) ?_) ?_; ((repeat (first | exact qd | refine qi ?_ | refine qL ?_ ?_))))
  refine qr (fun n σ => ∃ i : Nat, i ≤ a.length ∧ n = a.length - i ∧ (a.take i = b.take i) ∧ σ = ⟨[(0, qp a), (1, qp b), (5, .v (.int .i64 (i : Int)))], [], C.nh⟩) a.length ⟨0, Nat.zero_le _, rfl, rfl, rfl⟩ ?_
  rintro n σ ⟨i, hi, rfl, hsofar, rfl⟩
  by_cases hlt : i < a.length
  · have hlt2 : i < b.length := by omega
    have hr := qx (f := Ent.row) hlt
    have hr' := qx (f := Ent.row) hlt2
    have hnx := Xj hlt hlt2 hsofar
    repeat' (first | refine qe ?_ | (first | (apply qj; apply Yx; rfl; rfl; exact qgm; exact qdk _ _; (first | exact .inl ⟨rfl, rfl⟩ | exact .inr ⟨rfl, rfl⟩); exact nle rfl)) | ((first | refine xsC ?_ ?_); all_goals (intro hc; have hp := hc; try simp at hp; try (exfalso; omega))) | refine qv ?_ ?_)
    all_goals try (exfalso; omega)
    · apply qU
      rfl
      have hne : ¬ a = b := fun e => by subst e; simp at *
      simp [hne]
    · refine ⟨a.length - (i + 1), _, by omega, qf (ts := [(0, qp a), (1, qp b), (5, .v (.int .i64 ((i + 1 : Nat) : Int)))]) ?_, i + 1, by omega, rfl, (hnx (by simp_all)), rfl⟩; ((repeat (first | exact qd | refine qi ?_ | refine qL ?_ ?_)))
  obtain rfl : i = a.length := by omega
  have he : a = b := by rw [List.take_length] at hsofar; rw [hsofar, hab, List.take_length]
  repeat' (first | refine qe ?_ | fail | ((first | refine xsC ?_ ?_); all_goals (intro hc; have hp := hc; try simp at hp; try (exfalso; omega))) | refine qv ?_ ?_)
  all_goals try (exfalso; omega)
  apply qU
  rfl
  simp [he]
def YS (t : List Ent) (e w : Int) (want : List Ent) : Bool := decide (e = w) && decide (t = (if w = 0 then want else []))
theorem qaN (t : List Ent) (e w : Int) (want : List Ent) (ht : t.length ≤ 1000000000) (hw : want.length ≤ 1000000000) : jT C.P 29 [qp t, .v (.int .i64 e), .v (.int .i64 w), qp want] (.v (.bool (YS t e w want))) := by
  have hE : YS t e w want = (decide (e = w) && decide (t = (if w = 0 then want else []))) := rfl
  have h1 := wS t want ht hw
  have h2 := wS t [] ht (by simp)
  generalize YS t e w want = E at *
  by_cases hz : w = 0
  · rw [if_pos hz] at hE
    generalize decide (t = want) = D at *
    refine qa Tryz.func29 rfl _ Tryz.ntmps29 (Nat.le_of_ble_eq_true rfl) _ Tryz.results29 0 rfl rfl ?_
    repeat' (first | refine qe ?_ | (first | refine xsF Tryz.func22 (h1 ..) ?_) | ((first | refine qb ?_ ?_ | refine qc ?_ ?_ | refine xsC ?_ ?_); all_goals (intro hc; have hp := hc; try simp at hp; try (exfalso; omega))) | refine qv ?_ ?_)
    all_goals try (exfalso; omega)
    all_goals (apply qU; rfl; simp_all)
  · rw [if_neg hz] at hE
    generalize decide (t = []) = D at *
    refine qa Tryz.func29 rfl _ Tryz.ntmps29 (Nat.le_of_ble_eq_true rfl) _ Tryz.results29 0 rfl rfl ?_
    repeat' (first | refine qe ?_ | (first | refine xsF Tryz.func22 (h2 ..) ?_) | ((first | refine qb ?_ ?_ | refine qc ?_ ?_ | refine xsC ?_ ?_); all_goals (intro hc; have hp := hc; try simp at hp; try (exfalso; omega))) | refine qv ?_ ?_)
    all_goals try (exfalso; omega)
    all_goals (apply qU; rfl; simp_all)
end Go.Proofs.YtiljlcgmcmjcoaaGreatDoor
