import Derived.Test.YtiljlcgmcmjcoaaGreatDoorMz11
set_option linter.unusedSimpArgs false
set_option linter.unnecessarySimpa false
set_option linter.unusedVariables false
set_option maxHeartbeats 1000000
namespace Go.Proofs.YtiljlcgmcmjcoaaGreatDoor
open Go.Ab Go.RowKit
set_option maxRecDepth 10000
attribute [local irreducible] Awp jV q9 qJ Red qy Go.Ab.Fin ql Rz yQ qA qG ResOk jC q6 jH qT
structure RightE (t : List Ent) : Prop where
  rise : qr j5 t = true
  paths : ∀ x, x ∈ t → qC x.path = 0
  few : t.length ≤ 400000
def zA (t : List Ent) (c : Chg) (v : Int) : Int := if ¬ yo c = 0 then yo c else if ¬ vQ t c = 0 then vQ t c else j9 t c v
def Zo (t : List Ent) (c : Chg) (v : Int) : List Ent := if zA t c v = 0 then jl t c v else []
theorem yw {c : Chg} (h : yo c = 0) : 1 ≤ c.kind ∧ c.kind ≤ 4 ∧ qC c.path = 0 ∧ (c.kind = 3 → qC c.to = 0) ∧ zR c = 0 := by
  unfold yo at h
  split at h
  · exact absurd h (by decide)
  · split at h
    · contradiction
    · rename_i h1 h2
      split at h
      · rename_i h3; exact absurd h h3.2
      · rename_i h3
        refine ⟨by omega, by omega, by simpa using h2, fun h4 => ?_, h⟩
        have h5 := fun e => h3 ⟨h4, e⟩
        simpa using h5
theorem Vb {t : List Ent} {x y : Ent} (h : y ∈ yJ t x) : y = x ∨ y ∈ t := by
  unfold yJ at h
  split at h
  · rcases List.mem_append.1 h with h | h
    · exact .inr (List.mem_of_mem_take h)
    · rcases List.mem_append.1 h with h | h
      · exact .inl (List.mem_singleton.1 h)
      · exact .inr (List.mem_of_mem_drop h)
  · rcases List.mem_append.1 h with h | h
    · exact .inr (List.mem_of_mem_take h)
    · rcases List.mem_append.1 h with h | h
      · exact .inl (List.mem_singleton.1 h)
      · exact .inr (List.mem_of_mem_drop h)
theorem V5 : ∀ {l t : List Ent} {y : Ent}, y ∈ l.foldl yJ t → y ∈ l ∨ y ∈ t
  | [], _, _, h => .inr h
  | x :: l, t, y, h => by
    rcases V5 (l := l) (t := yJ t x) h with h | h
    · exact .inl (List.mem_cons_of_mem _ h)
    · rcases Vb h with rfl | h
      · exact .inl (List.mem_cons_self ..)
      · exact .inr h
theorem Yk {c : Chg} {v : Int} {x : Ent} (hx : qC x.path = 0) (h1 : qC c.path = 0) (h2 : qC c.to = 0) (hi : inB x.path c.path = true) (hg : yl (c.to ++ x.path.drop c.path.length) = false) : qC (yD c v x).path = 0 := by
  have hm := QG hx h1 h2 hi
  rw [hg, if_neg (by decide)] at hm
  have := (qbQ hm).2.1
  exact (yV.1 this).1
theorem KM {t : List Ent} {c : Chg} {v : Int} (h : j9 t c v = 0) : yC t c = false ∧ (jl t c v).length ≤ 60 := by
  unfold j9 at h
  split at h
  · exact absurd h (by decide)
  · split at h
    · exact absurd h (by decide)
    · rename_i h1 h2
      exact ⟨by simpa using h1, by omega⟩
theorem qaA {t : List Ent} {c : Chg} {v : Int} (ht : ∀ x, x ∈ t → qC x.path = 0) (hce : yo c = 0) (hbad : yC t c = false) : ∀ x, x ∈ jl t c v → qC x.path = 0 := by
  obtain ⟨k1, k2, hpe, hto, -⟩ := yw hce
  intro x hx
  unfold jl at hx
  split at hx
  · rcases Vb hx with rfl | h
    · exact hpe
    · exact ht x h
  · split at hx
    · rcases Vb hx with rfl | h
      · exact hpe
      · exact ht x h
    · split at hx
      · exact ht x (List.mem_filter.1 hx).1
      · have k3 : c.kind = 3 := by omega
        rcases V5 hx with h | h
        · obtain ⟨y, hy, rfl⟩ := List.mem_map.1 h
          obtain ⟨hy1, hy2⟩ := List.mem_filter.1 hy
          simp only [yC, k3, decide_true, Bool.true_and, List.any_eq_false] at hbad
          exact Yk (ht y hy1) hpe (hto k3) hy2 (by simpa using hbad y hy)
        · exact ht x (List.mem_filter.1 h).1
theorem Yd {t : List Ent} {c : Chg} {v : Int} (hs : qr j5 t = true) : qr j5 (jl t c v) = true := by
  unfold jl
  split
  · exact zV hs
  · split
    · exact zV hs
    · split
      · exact zq hs
      · exact zQ (zq hs)
theorem Jd (t : List Ent) (c : Chg) (v : Int) : (jl t c v).length ≤ 2 * t.length + 1 := by
  have h1 := fun x => qat t x
  have h2 : (jR (zg c.path) t).length ≤ t.length := List.length_filter_le ..
  have h3 : (jr t c v).length ≤ t.length := by unfold jr; rw [List.length_map]; exact List.length_filter_le ..
  have h4 := Qp (jr t c v) (jR (zg c.path) t)
  unfold jl
  split
  · have := h1 ⟨c.path, true, [], v⟩; omega
  · split
    · have := h1 ⟨c.path, false, c.text, v⟩; omega
    · split <;> omega
theorem RightE.done {t : List Ent} {c : Chg} {v : Int} (h : RightE t) (hr : zA t c v = 0) : RightE (jl t c v) := by
  unfold zA at hr
  split at hr
  · contradiction
  · split at hr
    · contradiction
    · rename_i h1 h2
      obtain ⟨h3, h4⟩ := KM hr
      exact ⟨Yd h.rise, qaA h.paths (by simpa using h1) h3, by omega⟩
theorem qgp (t : List Ent) (c : Chg) (v : Int) (h : RightE t) (hce : yo c = 0) (hbad : yC t c = false) :
    ql C1.P 175 [.os 0 0 t.length, .agg c.row, .v (.int .i64 v)] [.own false 4 (t.map Ent.row)] (Z5 (j9 t c v) (jl t c v).length) [.dead, .own false 4 ((jl t c v).map Ent.row)] := by
  obtain ⟨k1, k2, hpe, hto, -⟩ := yw hce
  have hf := h.few
  have hl := Jd t c v
  have hps := jj hpe
  by_cases h1 : c.kind = 1
  · exact qgf t c v (by omega) h.rise h1 (by omega)
  · by_cases h2 : c.kind = 2
    · exact qfI t c v (by omega) h.rise h2 (by omega)
    · by_cases h4 : c.kind = 4
      · exact qfC t c v (by omega) h4 (by omega)
      · have h3 : c.kind = 3 := by omega
        exact qaV t c v hf h3 h.paths hpe (hto h3) hbad h.rise
theorem Yb {t : List Ent} {c : Chg} {v : Int} (h : ¬ zA t c v = 0) : Zo t c v = [] := by unfold Zo; rw [if_neg h]
theorem qgz (t : List Ent) (c : Chg) (v : Int) (h : RightE t) (hcs : c.small) : jY C.P 149 [qq t, .agg c.row, .v (.int .i64 v)] (.tup [qq (Zo t c v), .v (.int .i64 (zA t c v))]) := by
  have hf := h.few
  have h1 := qgm c hcs
  have h2 := qhg t c (by omega) h.rise hcs
  have h3 := Va t (by omega)
  have hR : zA t c v = if ¬ yo c = 0 then yo c else if ¬ vQ t c = 0 then vQ t c else j9 t c v := rfl
  have hbadL := @Yb t c v
  by_cases hce : yo c = 0
  · by_cases hme : vQ t c = 0
    · have hR2 : zA t c v = j9 t c v := by rw [hR, if_neg (by simp [hce]), if_neg (by simp [hme])]
      rw [hce] at h1
      rw [hme] at h2
      cases hb : yC t c with
      | true =>
        obtain ⟨k1, k2, hpe, hto, -⟩ := yw hce
        have hk3 : c.kind = 3 := by
          simp [yC] at hb; exact hb.1
        have hE : j9 t c v = 2 := by simp [j9, hb]
        have hd := WV t c v (by omega) hk3 h.paths hpe (hto hk3) hb
        rw [hE] at hR2
        rw [hbadL (by rw [hR2]; decide), hR2]
        refine qa Tryz.func149 rfl _ Tryz.ntmps149 (Nat.le_of_ble_eq_true rfl) _ Tryz.results149 0 rfl rfl ?_
        repeat' (first | refine qe ?_ | (first | refine xsF Tryz.func173 (h1 ..) ?_ | refine xsF Tryz.func174 (h2 ..) ?_ | (apply qH Tryz.func101 rfl rfl; intro hIsFn; refine j6 ([]) hIsFn (h3 ..) ?_) | (apply qH Tryz.func175 rfl rfl; intro hIsFn; refine wD ([1]) 1 hIsFn (hd ..) ?_)) | ((first | refine xsC ?_ ?_); all_goals (intro hc; have hp := hc; try simp at hp; try (exfalso; omega))) | refine qw ?_ ?_)
        all_goals try (exfalso; omega)
        (exact yv (rs := [.tmp 6, .tmp 7]))
      | false =>
        have hd := qgp t c v h hce hb
        by_cases hE : j9 t c v = 0
        · have hL : Zo t c v = jl t c v := by unfold Zo; rw [if_pos (by rw [hR2, hE])]
          rw [hE] at hR2 hd
          rw [hL, hR2]
          generalize jl t c v = L at *
          have hd : ql C1.P 175 [.os 0 0 t.length, .agg c.row, .v (.int .i64 v)] [.own false 4 (t.map Ent.row)] (.tup [.os 1 0 L.length, .v (.int .i64 0)]) [.dead, .own false 4 (L.map Ent.row)] := hd
          refine qa Tryz.func149 rfl _ Tryz.ntmps149 (Nat.le_of_ble_eq_true rfl) _ Tryz.results149 0 rfl rfl ?_
          repeat' (first | refine qe ?_ | (first | refine xsF Tryz.func173 (h1 ..) ?_ | refine xsF Tryz.func174 (h2 ..) ?_ | (apply qH Tryz.func101 rfl rfl; intro hIsFn; refine j6 ([]) hIsFn (h3 ..) ?_) | (apply qH Tryz.func175 rfl rfl; intro hIsFn; refine vN ([1]) 1 hIsFn (hd ..) ?_)) | ((first | refine xsC ?_ ?_); all_goals (intro hc; have hp := hc; try simp at hp; try (exfalso; omega))) | refine qw ?_ ?_)
          all_goals try (exfalso; omega)
          (exact yv (rs := [.tmp 6, .tmp 7]))
        · rw [hbadL (by rw [hR2]; exact hE), hR2]
          generalize j9 t c v = E at *
          generalize jl t c v = L at *
          have hd : ql C1.P 175 [.os 0 0 t.length, .agg c.row, .v (.int .i64 v)] [.own false 4 (t.map Ent.row)] (.tup [.sl true [], .v (.int .i64 E)]) [.dead, .own false 4 (L.map Ent.row)] := by
            rw [Z5, if_neg hE] at hd; exact hd
          refine qa Tryz.func149 rfl _ Tryz.ntmps149 (Nat.le_of_ble_eq_true rfl) _ Tryz.results149 0 rfl rfl ?_
          repeat' (first | refine qe ?_ | (first | refine xsF Tryz.func173 (h1 ..) ?_ | refine xsF Tryz.func174 (h2 ..) ?_ | (apply qH Tryz.func101 rfl rfl; intro hIsFn; refine j6 ([]) hIsFn (h3 ..) ?_) | (apply qH Tryz.func175 rfl rfl; intro hIsFn; refine vN ([1]) 1 hIsFn (hd ..) ?_)) | ((first | refine xsC ?_ ?_); all_goals (intro hc; have hp := hc; try simp at hp; try (exfalso; omega))) | refine qw ?_ ?_)
          all_goals try (exfalso; omega)
          (exact yv (rs := [.tmp 6, .tmp 7]))
    · have hR2 : zA t c v = vQ t c := by rw [hR, if_neg (by simp [hce]), if_pos hme]
      rw [hce] at h1
      rw [hbadL (by rw [hR2]; exact hme), hR2]
      generalize vQ t c = E at *
      refine qa Tryz.func149 rfl _ Tryz.ntmps149 (Nat.le_of_ble_eq_true rfl) _ Tryz.results149 0 rfl rfl ?_
      repeat' (first | refine qe ?_ | (first | refine xsF Tryz.func173 (h1 ..) ?_ | refine xsF Tryz.func174 (h2 ..) ?_) | ((first | refine xsC ?_ ?_); all_goals (intro hc; have hp := hc; try simp at hp; try (exfalso; omega))) | refine qw ?_ ?_)
      all_goals try (exfalso; omega)
      (exact yv (rs := [.tmp 6, .tmp 7]))
  · have hR2 : zA t c v = yo c := by rw [hR, if_pos hce]
    rw [hbadL (by rw [hR2]; exact hce), hR2]
    generalize yo c = E at *
    refine qa Tryz.func149 rfl _ Tryz.ntmps149 (Nat.le_of_ble_eq_true rfl) _ Tryz.results149 0 rfl rfl ?_
    repeat' (first | refine qe ?_ | (first | refine xsF Tryz.func173 (h1 ..) ?_) | ((first | refine xsC ?_ ?_); all_goals (intro hc; have hp := hc; try simp at hp; try (exfalso; omega))) | refine qw ?_ ?_)
    all_goals try (exfalso; omega)
    (exact yv (rs := [.tmp 6, .tmp 7]))
end Go.Proofs.YtiljlcgmcmjcoaaGreatDoor
set_option linter.unusedSimpArgs false
set_option linter.unnecessarySimpa false
set_option linter.unusedVariables false
namespace Go.Proofs.YtiljlcgmcmjcoaaGreatDoor
open Go.Op
def jo (t : List Ent) (p : qB) : Option Ent := t.find? (atP p)
theorem y5 {t : List Ent} {p : qB} {x : Ent} (h : jo t p = some x) : x ∈ t ∧ x.path = p := by
  have h1 := List.mem_of_find?_eq_some h
  have h2 := List.find?_some h
  exact ⟨h1, by simpa [atP] using h2⟩
theorem vX {t : List Ent} {p : qB} : jo t p = none ↔ ∀ x, x ∈ t → ¬ x.path = p := by
  unfold jo
  rw [List.find?_eq_none]
  simp [atP]
theorem WJ {t : List Ent} (hs : qr j5 t = true) {x y : Ent} (hx : x ∈ t) (hy : y ∈ t) (h : x.path = y.path) : x = y := by
  obtain ⟨i, hi, rfl⟩ := List.getElem_of_mem hx
  obtain ⟨j, hj, rfl⟩ := List.getElem_of_mem hy
  rcases Nat.lt_trichotomy i j with h1 | h1 | h1
  · have := vR hs i j hi hj h1
    rw [h, xu] at this; cases this
  · subst h1; rfl
  · have := vR hs j i hj hi h1
    rw [h, xu] at this; cases this
theorem VG {t : List Ent} (hs : qr j5 t = true) {x : Ent} (hx : x ∈ t) : jo t x.path = some x := by
  cases h : jo t x.path with
  | none => exact absurd rfl (vX.1 h x hx)
  | some y =>
    obtain ⟨h1, h2⟩ := y5 h
    rw [WJ hs h1 hx h2]
theorem WO {t : List Ent} (hs : qr j5 t = true) {p : qB} {x : Ent} : jo t p = some x ↔ x ∈ t ∧ x.path = p :=
  ⟨y5, fun ⟨h1, h2⟩ => h2 ▸ VG hs h1⟩
theorem KD {t : List Ent} {x : Ent} (hs : qr j5 t = true) (y : Ent) : y ∈ yJ t x ↔ y = x ∨ (y ∈ t ∧ ¬ y.path = x.path) := by
  obtain ⟨A, M, Z, h, hp, hA, hZ, hM⟩ := KR x.path (x5.1 hs)
  rw [JP h hp hM, h]
  have hA' : ∀ a, a ∈ A → ¬ a.path = x.path := fun a ha => Vo (hA a ha)
  have hZ' : ∀ a, a ∈ Z → ¬ a.path = x.path := fun a ha e => Vo (hZ a ha) e.symm
  simp only [List.mem_append, List.mem_singleton]
  constructor
  · rintro (h1 | h1 | h1)
    · exact .inr ⟨.inl h1, hA' y h1⟩
    · exact .inl h1
    · exact .inr ⟨.inr (.inr h1), hZ' y h1⟩
  · rintro (h1 | ⟨h1 | h1 | h1, h2⟩)
    · exact .inr (.inl h1)
    · exact .inl h1
    · rcases hM with ⟨_, z, rfl, hz⟩ | ⟨_, rfl⟩
      · rw [List.mem_singleton.1 h1] at h2; exact absurd hz h2
      · cases h1
    · exact .inr (.inr h1)
theorem Q2 {t : List Ent} {x : Ent} (hs : qr j5 t = true) (p : qB) : jo (yJ t x) p = if p = x.path then some x else jo t p := by
  have hr := zV (x := x) hs
  split
  · rename_i h
    rw [WO hr, KD hs]
    exact ⟨.inl rfl, h.symm⟩
  · rename_i h
    cases hl : jo t p with
    | none =>
      rw [vX] at hl ⊢
      intro y hy
      rcases (KD hs y).1 hy with rfl | ⟨h1, _⟩
      · exact fun e => h e.symm
      · exact hl y h1
    | some y =>
      obtain ⟨h1, h2⟩ := y5 hl
      rw [WO hr, KD hs]
      exact ⟨.inr ⟨h1, by rw [h2]; exact h⟩, h2⟩
theorem YU (t : List Ent) (q p : qB) : jo (jR (zg q) t) p = if inB p q = true then none else jo t p := by
  split
  · rename_i h
    rw [vX]
    intro x hx
    have := (List.mem_filter.1 hx).2
    intro e
    simp only [zg, e, h] at this
    exact absurd this (by decide)
  · rename_i h
    unfold jo jR
    rw [List.find?_filter]
    congr 1
    funext x
    by_cases hx : x.path = p
    · simp [atP, zg, hx, h]
    · simp [atP, hx]
theorem XP : ∀ {l t : List Ent}, qr j5 t = true → (l.Pairwise fun a b => ¬ a.path = b.path) → ∀ p, jo (l.foldl yJ t) p = match jo l p with | some x => some x | none => jo t p
  | [], t, _, _, p => rfl
  | x :: l, t, hs, hd, p => by
    have hd1 := List.pairwise_cons.1 hd
    rw [List.foldl_cons, XP (zV hs) hd1.2 p, Q2 hs]
    by_cases hp : p = x.path
    · subst hp
      have : jo l x.path = none := vX.2 fun y hy e => hd1.1 y hy e.symm
      rw [this]
      simp [jo, atP]
    · have h2 : jo (x :: l) p = jo l p := by
        unfold jo
        rw [List.find?_cons_of_neg]
        simp [atP]; exact fun e => hp e.symm
      rw [h2, if_neg hp]
theorem vL {p q : qB} : inB p q = true ↔ ∃ r, p = q ++ r ∧ (r = [] ∨ r.head? = some 47) := by
  unfold inB
  rw [Bool.or_eq_true, decide_eq_true_eq, List.isPrefixOf_iff_prefix]
  constructor
  · rintro (rfl | ⟨s, h⟩)
    · exact ⟨[], by simp, .inl rfl⟩
    · exact ⟨47 :: s, by rw [← h]; simp, .inr rfl⟩
  · rintro ⟨r, rfl, rfl | h⟩
    · exact .inl (by simp)
    · cases r with
      | nil => exact .inl (by simp)
      | cons c r =>
        simp at h
        subst h
        exact .inr ⟨r, by simp⟩
theorem Jc {p q r : qB} (h1 : inB p q = true) (h2 : inB q r = true) : inB p r = true := by
  obtain ⟨a, rfl, ha⟩ := vL.1 h1
  obtain ⟨b, rfl, hb⟩ := vL.1 h2
  refine vL.2 ⟨b ++ a, by simp, ?_⟩
  cases b with
  | nil => simpa using ha
  | cons c b => right; simpa using hb
theorem qea {p q : qB} (h1 : inB p q = true) (h2 : inB q p = true) : p = q := by
  obtain ⟨a, h, _⟩ := vL.1 h1
  obtain ⟨b, h', _⟩ := vL.1 h2
  have hl : a = [] := by
    have := congrArg List.length h
    have := congrArg List.length h'
    simp at *
    exact List.length_eq_zero_iff.1 (by omega)
  rw [h, hl]; simp
theorem YT {p q : qB} : inB p q = true ↔ qk q <+: qk p := by rw [X0, List.isPrefixOf_iff_prefix]
end Go.Proofs.YtiljlcgmcmjcoaaGreatDoor
set_option linter.unusedSimpArgs false
set_option linter.unnecessarySimpa false
set_option linter.unusedVariables false
namespace Go.Ab
theorem K5 {C : Cx} {ts : List (Nat × AV)} {hs : List (Nat × HB)} {nx : Nat} (i n : Nat) {off len : Nat} {rows : List (List AV)} (hi : qp ts i = .os n off len) (hn : q7 hs n = .fz rows) (hl : off + len ≤ rows.length) : Red C ⟨ts, hs, nx⟩ ⟨(i, .sl false ((rows.drop off).take len)) :: ts, hs, nx⟩ := by
  intro B a w hB ⟨g1, g2, F, ρ, hp, g4⟩
  refine ⟨g1, g2, F, ρ, { kept := hp.kept, agree := hp.agree, grow := hp.grow, fresh := hp.fresh, names := hp.names, dom := hp.dom, own := hp.own, new := hp.new, sep := hp.sep }, fun m => ?_⟩
  show M F ρ _ (qp ((i, _) :: ts) m)
  rw [wK]
  by_cases him : i = m
  · subst him
    rw [if_pos rfl]
    have h1 : M F ρ _ (qp ts i) := g4 i
    rw [hi] at h1
    have h2 : OwnAt F ρ w n (q7 hs n) := hp.own n
    exact qa6 (L := []) (rh := [n]) (h := q7 hs) hn (by simp) hl F ρ ρ w _ (fun m hm => by obtain rfl := List.mem_singleton.1 hm; exact h2) (fun a b hm c hc => by
      rcases hm with h | h
      · obtain rfl := h.2; exact hc
      · cases h) h1
  · rw [if_neg him]
    exact g4 m
end Go.Ab
set_option maxHeartbeats 1000000
namespace Go.Proofs.YtiljlcgmcmjcoaaGreatDoor
open Go.Ab Go.RowKit
set_option maxRecDepth 10000
attribute [local irreducible] Awp jV q9 qJ Red qy Go.Ab.Fin ql Rz yQ qA qG ResOk jC q6 jH qT
theorem Qr {t : List Ent} (h : jx t = 0) : t.length ≤ 60 ∧ (∀ x, x ∈ t → yY x = 0) ∧ qr j5 t = true ∧ ∀ x, x ∈ t → yp t x = 0 := by
  unfold jx at h
  split at h
  · exact absurd h (by decide)
  · split at h
    · split at h
      · split at h
        · exact absurd h (by decide)
        · split at h
          · exact absurd h (by decide)
          · rename_i h1 h2 h3 h4 h5
            refine ⟨by omega, jz.1 h2, h3, fun x hx => ?_⟩
            have h6 : (t.any fun x => decide (¬ yp t x = 0)) = false := by simpa using h5
            rw [List.any_eq_false] at h6
            simpa using h6 x hx
      · exact absurd h (by decide)
    · contradiction
theorem xU {x : Ent} (h : yY x = 0) : qC x.path = 0 ∧ ¬ (x.fold = true ∧ ¬ x.text = []) ∧ x.text.length ≤ 300 ∧ xW x.ver = true := by
  unfold yY at h
  split at h
  · split at h
    · exact absurd h (by decide)
    · split at h
      · exact absurd h (by decide)
      · split at h
        · exact ⟨by assumption, by assumption, by omega, by assumption⟩
        · exact absurd h (by decide)
  · contradiction
theorem RightE.of {t : List Ent} (h : jx t = 0) : RightE t := by
  obtain ⟨h1, h2, h3, h4⟩ := Qr h
  exact ⟨h3, fun x hx => (xU (h2 x hx)).1, by omega⟩
end Go.Proofs.YtiljlcgmcmjcoaaGreatDoor
set_option linter.unusedSimpArgs false
set_option linter.unnecessarySimpa false
set_option linter.unusedVariables false
namespace Go.Proofs.YtiljlcgmcmjcoaaGreatDoor
open Go.Op
structure Right (t : List Ent) : Prop where
  len : t.length ≤ 60
  ent : ∀ x, x ∈ t → yY x = 0
  rise : qr j5 t = true
  par : ∀ x, x ∈ t → ye t (qL x.path) = 0
theorem zL {t : List Ent} : jx t = 0 ↔ Right t := by
  constructor
  · intro h
    obtain ⟨h1, h2, h3, h4⟩ := Qr h
    exact ⟨h1, h2, h3, h4⟩
  · intro h
    have h1 : ¬ 60 < t.length := by have := h.len; omega
    have h2 : t.any (fun x => decide (yp t x = 5)) = false := by
      rw [List.any_eq_false]; intro x hx
      have : yp t x = 0 := h.par x hx
      simp [this]
    have h3 : t.any (fun x => decide (¬ yp t x = 0)) = false := by
      rw [List.any_eq_false]; intro x hx
      have : yp t x = 0 := h.par x hx
      simp [this]
    unfold jx
    rw [if_neg h1, if_pos (jz.2 h.ent), if_pos h.rise, h2, h3]
    rfl
theorem xe {t : List Ent} {q : qB} : ye t q = 0 ↔ q = [] ∨ ∃ y, jo t q = some y ∧ y.fold = true := by
  unfold ye jo
  by_cases hq : q = []
  · simp [hq]
  · rw [if_neg hq]
    cases h : t.find? (atP q) with
    | none => simp [hq]
    | some x => cases hf : x.fold <;> simp [hq, hf]
theorem zW {p : qB} (h : qC p = 0) : ∀ n, n ∈ qk p → n ≠ [] := fun n hn e => by
  have := (kr.1 h).1 n hn
  rw [e, qbW] at this; cases this
theorem YK {p : qB} (h : (qk p).dropLast ≠ []) : qk (qL p) = (qk p).dropLast := by
  obtain ⟨h1, h2⟩ := vY p
  rw [← h2]
  exact JN h fun n hn => Yn p n (List.dropLast_subset _ hn)
theorem qfq {p q : qB} (hp : qC p = 0) (hi : inB p q = true) (hne : ¬ q = p) : ¬ qL p = [] ∧ inB (qL p) q = true ∧ (qk (qL p)).length < (qk p).length := by
  have hpre := YT.1 hi
  obtain ⟨s, hs⟩ := hpre
  have hsn : s ≠ [] := fun e => hne (by
    rw [e, List.append_nil] at hs
    rw [← xj q, hs, xj])
  have hdl : (qk p).dropLast = qk q ++ s.dropLast := by rw [← hs, List.dropLast_append_of_ne_nil hsn]
  have hdn : (qk p).dropLast ≠ [] := by
    rw [hdl]; intro e
    exact xp q (List.append_eq_nil_iff.1 e).1
  have hpn := YK hdn
  refine ⟨fun e => ?_, ?_, ?_⟩
  · have hm : ([] : qB) ∈ qk (qL p) := by rw [e]; simp [qk]
    rw [hpn] at hm
    exact zW hp [] (List.dropLast_subset _ hm) rfl
  · rw [YT, hpn, hdl]
    exact List.prefix_append _ _
  · rw [hpn, List.length_dropLast]
    have := names_pos' p
    omega
where names_pos' (p : qB) : 0 < (qk p).length := List.length_pos_iff.2 (xp p)
theorem qgw {p : qB} (hp : qC p = 0) : ¬ qL p = p := fun e => by
  obtain ⟨h1, h2⟩ := vY p
  have h3 : (qk p).dropLast ≠ [] ∨ (qk p).dropLast = [] := (Decidable.em _).symm
  rcases h3 with h3 | h3
  · have := YK h3
    rw [e] at this
    have hl := congrArg List.length this
    rw [List.length_dropLast] at hl
    have := List.length_pos_iff.2 (xp p)
    omega
  · rw [h3] at h2
    have : p = [] := by rw [← e, ← h2]; rfl
    subst this
    exact zW hp [] (by simp [qk]) rfl
theorem qbv {p : qB} (hp : qC p = 0) (hne : ¬ qL p = []) : inB p (qL p) = true := by
  obtain ⟨h1, h2⟩ := vY p
  have hdn : (qk p).dropLast ≠ [] := fun e => hne (by rw [← h2, e]; rfl)
  rw [YT, YK hdn]
  exact List.dropLast_prefix _
theorem anc {t : List Ent} (h : Right t) : ∀ (n : Nat) (x : Ent), x ∈ t → (qk x.path).length = n → ∀ q, inB x.path q = true → ¬ q = x.path → ∃ y, jo t q = some y ∧ y.fold = true := by
  intro n
  induction n using Nat.strongRecOn with
  | _ n ih =>
    intro x hx hn q hi hne
    have hpe := (xU (h.ent x hx)).1
    obtain ⟨h1, h2, h3⟩ := qfq hpe hi hne
    rcases xe.1 (h.par x hx) with h4 | ⟨y, h4, h5⟩
    · exact absurd h4 h1
    · obtain ⟨h6, h7⟩ := y5 h4
      by_cases hq : q = qL x.path
      · subst hq; exact ⟨y, h4, h5⟩
      · exact ih (qk y.path).length (by rw [h7]; omega) y h6 rfl q (by rw [h7]; exact h2) (by rw [h7]; exact hq)
theorem qfV {t : List Ent} (h : Right t) {q p : qB} (hq : jo t q = none) (hi : inB p q = true) : jo t p = none := by
  cases hl : jo t p with
  | none => rfl
  | some x =>
    obtain ⟨h1, h2⟩ := y5 hl
    by_cases e : q = p
    · subst e; rw [hq] at hl; cases hl
    · obtain ⟨y, h3, _⟩ := anc h _ x h1 rfl q (by rw [h2]; exact hi) (by rw [h2]; exact e)
      rw [hq] at h3; cases h3
theorem Zv {u : List Ent} (hs : qr j5 u = true) (hl : u.length ≤ 60) (h : ∀ p x, jo u p = some x → yY x = 0 ∧ (qL p = [] ∨ ∃ y, jo u (qL p) = some y ∧ y.fold = true)) : Right u :=
  ⟨hl, fun x hx => (h _ x (VG hs hx)).1, hs, fun x hx => xe.2 (h _ x (VG hs hx)).2⟩
theorem qev {t : List Ent} {c : Chg} (h : vQ t c = 0) : ye t (qL (jI c)) = 0 ∧ vI t c = 0 ∧ z7 t c = 0 ∧ j8 t c = 0 := by
  unfold vQ at h
  split at h
  · contradiction
  · split at h
    · contradiction
    · split at h
      · contradiction
      · exact ⟨by omega, by omega, by omega, h⟩
theorem qe3 {t : List Ent} {c : Chg} {v : Int} (h : zA t c v = 0) : yo c = 0 ∧ vQ t c = 0 ∧ j9 t c v = 0 := by
  unfold zA at h
  split at h
  · contradiction
  · split at h
    · contradiction
    · exact ⟨by omega, by omega, h⟩
def YI (c : Chg) (p : qB) : qB := c.path ++ p.drop c.to.length
theorem qcq {c : Chg} {p : qB} (h : inB p c.to = true) : ∃ r, p = c.to ++ r ∧ YI c p = c.path ++ r ∧ inB (YI c p) c.path = true ∧ (r = [] ∨ r.head? = some 47) := by
  obtain ⟨r, rfl, hr⟩ := vL.1 h
  have hb : YI c (c.to ++ r) = c.path ++ r := by simp [YI]
  exact ⟨r, rfl, hb, by rw [hb]; exact vL.2 ⟨r, rfl, hr⟩, hr⟩
theorem VF {t : List Ent} {c : Chg} {v : Int} {y : Ent} (h : y ∈ jr t c v) : ∃ x r, x ∈ t ∧ x.path = c.path ++ r ∧ (r = [] ∨ r.head? = some 47) ∧ y = yD c v x ∧ y.path = c.to ++ r := by
  obtain ⟨x, hx, rfl⟩ := List.mem_map.1 h
  obtain ⟨hx1, hx2⟩ := List.mem_filter.1 hx
  obtain ⟨r, hr, hr2⟩ := vL.1 hx2
  exact ⟨x, r, hx1, hr, hr2, rfl, by simp [yD, hr]⟩
theorem qdm {t : List Ent} {c : Chg} {v : Int} (hs : qr j5 t = true) (p : qB) : jo (jr t c v) p = if inB p c.to = true then (jo t (YI c p)).map (yD c v) else none := by
  split
  · rename_i h
    obtain ⟨r, rfl, hb, hbi, hr⟩ := qcq (c := c) h
    rw [hb] at hbi ⊢
    cases hl : jo t (c.path ++ r) with
    | none =>
      rw [Option.map_none, vX]
      intro y hy e
      obtain ⟨x, r', h1, h2, _, _, h3⟩ := VF hy
      rw [h3] at e
      have := List.append_cancel_left e
      subst this
      exact vX.1 hl x h1 h2
    | some x =>
      obtain ⟨h1, h2⟩ := y5 hl
      rw [Option.map_some]
      have hm : yD c v x ∈ jr t c v := List.mem_map.2 ⟨x, List.mem_filter.2 ⟨h1, by unfold zg; rw [h2]; exact hbi⟩, rfl⟩
      have hp : (yD c v x).path = c.to ++ r := by simp [yD, h2]
      cases hf : jo (jr t c v) (c.to ++ r) with
      | none => exact absurd hp (vX.1 hf _ hm)
      | some y =>
        obtain ⟨h3, h4⟩ := y5 hf
        obtain ⟨x', r', h5, h6, _, h7, h8⟩ := VF h3
        rw [h8] at h4
        have := List.append_cancel_left h4
        subst this
        rw [h7, WJ hs h1 h5 (by rw [h2, h6])]
  · rename_i h
    rw [vX]
    intro y hy e
    obtain ⟨x, r, h1, h2, h3, _, h4⟩ := VF hy
    exact h (vL.2 ⟨r, by rw [← e, h4], h3⟩)
theorem qbs {t : List Ent} {c : Chg} {v : Int} (hs : qr j5 t = true) : (jr t c v).Pairwise fun a b => ¬ a.path = b.path := by
  unfold jr
  rw [List.pairwise_map]
  have h1 : (t.filter (zg c.path)).Pairwise (fun a b => bytesLess a.path b.path = true) := (x5.1 hs).sublist List.filter_sublist
  refine h1.imp_of_mem fun {a b} ha hb hlt => ?_
  obtain ⟨r, hr, _⟩ := vL.1 (List.mem_filter.1 ha).2
  obtain ⟨s, hs', _⟩ := vL.1 (List.mem_filter.1 hb).2
  intro e
  simp only [yD, hr, hs', List.drop_left] at e
  have := List.append_cancel_left e
  rw [hr, hs', this, xu] at hlt
  cases hlt
theorem qc7 {t : List Ent} {c : Chg} {v : Int} (h : Right t) (hk : c.kind = 3) (hto : jo t c.to = none) (p : qB) : jo (jl t c v) p = if inB p c.to = true then (jo t (YI c p)).map (yD c v) else if inB p c.path = true then none else jo t p := by
  have hD : jl t c v = (jr t c v).foldl yJ (jR (zg c.path) t) := by simp [jl, hk]
  rw [hD, XP (zq h.rise) (qbs h.rise), qdm h.rise, YU]
  by_cases hi : inB p c.to = true
  · rw [if_pos hi, if_pos hi]
    cases hl : jo t (YI c p) with
    | some x => rfl
    | none =>
      rw [Option.map_none]
      have := qfV h hto hi
      simp [this]
  · rw [if_neg hi, if_neg hi]
theorem qfA {a r : qB} : ∃ s, (∀ b : qB, qL (b ++ 47 :: r) = b ++ s) ∧ (s = [] ∨ s.head? = some 47) := by
  rcases QS (c := 47) r with h | ⟨r1, r2, rfl, h⟩
  · exact ⟨[], fun b => by rw [(ZJ h).1]; simp, .inl rfl⟩
  · refine ⟨47 :: r1, fun b => ?_, .inr rfl⟩
    have := (ZJ (a := b ++ 47 :: r1) h).1
    rw [← this]; simp
theorem qem {c : Chg} (h : yo c = 0) : c.text.length ≤ 300 := by
  have := (yw h).2.2.2.2
  unfold zR at this
  split at this
  · exact absurd this (by decide)
  · split at this
    · exact absurd this (by decide)
    · omega
theorem qaO {p : qB} {f : Bool} {s : qB} {v : Int} (h1 : qC p = 0) (h2 : f = true → s = []) (h3 : s.length ≤ 300) (h4 : xW v = true) : yY ⟨p, f, s, v⟩ = 0 := by
  unfold yY
  simp only
  rw [if_pos h1, if_neg (fun e => e.2 (h2 e.1)), if_neg (by omega), if_pos h4]
theorem qbM {t : List Ent} {c : Chg} {v : Int} (h : Right t) (hv : xW v = true) (hr : zA t c v = 0) : Right (jl t c v) := by
  obtain ⟨hc0, hm0, hd0⟩ := qe3 hr
  obtain ⟨k1, k2, hpe, hte, -⟩ := yw hc0
  obtain ⟨hf, hi, hmv, -⟩ := qev hm0
  obtain ⟨hb, h60⟩ := KM hd0
  have hs := Yd (c := c) (v := v) h.rise
  have htx := qem hc0
  refine Zv hs h60 fun p x hx => ?_
  by_cases e1 : c.kind = 1
  · have hD : jl t c v = yJ t ⟨c.path, true, [], v⟩ := by simp [jl, e1]
    have hg : jI c = c.path := by simp [jI, e1]
    rw [hg] at hf
    rw [hD, Q2 h.rise] at hx
    have key : ∀ q, (∃ y, jo t q = some y ∧ y.fold = true) → ∃ y, jo (jl t c v) q = some y ∧ y.fold = true := fun q ⟨y, h1, h2⟩ => by
      rw [hD, Q2 h.rise]
      split
      · exact ⟨_, rfl, rfl⟩
      · exact ⟨y, h1, h2⟩
    split at hx
    · rename_i hp
      injection hx with hx
      subst hx; subst hp
      exact ⟨qaO hpe (fun _ => rfl) (by simp) hv, (xe.1 hf).imp id (key _)⟩
    · obtain ⟨h1, h2⟩ := y5 hx
      refine ⟨h.ent x h1, ?_⟩
      have := xe.1 (h.par x h1)
      rw [h2] at this
      exact this.imp id (key _)
  · by_cases e2 : c.kind = 2
    · have hD : jl t c v = yJ t ⟨c.path, false, c.text, v⟩ := by simp [jl, e2]
      have hg : jI c = c.path := by simp [jI, e2]
      rw [hg] at hf
      rw [hD, Q2 h.rise] at hx
      have hfa : ∀ y, jo t c.path = some y → y.fold = false := fun y hy => by
        unfold vI at hi
        rw [if_neg e1, if_pos e2] at hi
        unfold xx at hi
        rw [show t.find? (atP c.path) = some y from hy] at hi
        cases hyf : y.fold with
        | false => rfl
        | true => simp [hyf] at hi
      have key : ∀ q, (∃ y, jo t q = some y ∧ y.fold = true) → ∃ y, jo (jl t c v) q = some y ∧ y.fold = true := fun q ⟨y, h1, h2⟩ => by
        rw [hD, Q2 h.rise]
        split
        · rename_i e
          simp only at e
          rw [e] at h1
          rw [hfa y h1] at h2; cases h2
        · exact ⟨y, h1, h2⟩
      split at hx
      · rename_i hp
        injection hx with hx
        subst hx; subst hp
        exact ⟨qaO hpe (fun e => by cases e) htx hv, (xe.1 hf).imp id (key _)⟩
      · obtain ⟨h1, h2⟩ := y5 hx
        refine ⟨h.ent x h1, ?_⟩
        have := xe.1 (h.par x h1)
        rw [h2] at this
        exact this.imp id (key _)
    · by_cases e4 : c.kind = 4
      · have hD : jl t c v = jR (zg c.path) t := by simp [jl, e4]
        rw [hD, YU] at hx
        split at hx
        · cases hx
        · rename_i hin
          obtain ⟨h1, h2⟩ := y5 hx
          refine ⟨h.ent x h1, ?_⟩
          have hxe := (xU (h.ent x h1)).1
          have := xe.1 (h.par x h1)
          rw [h2] at this hxe
          rcases this with h3 | ⟨y, h3, h4⟩
          · exact .inl h3
          · refine .inr ⟨y, ?_, h4⟩
            rw [hD, YU, if_neg]
            · exact h3
            · intro h5
              have hne : ¬ qL p = [] := fun e => by
                rw [e] at h3
                obtain ⟨h6, h7⟩ := y5 h3
                have := (xU (h.ent y h6)).1
                rw [h7] at this
                exact zW this [] (by simp [qk]) rfl
              exact hin (Jc (qbv hxe hne) h5)
      · have e3 : c.kind = 3 := by omega
        have hpt := hte e3
        have hg : jI c = c.to := by simp [jI, e3]
        rw [hg] at hf
        have hM : z7 t c = if inB c.to c.path = true then 3 else if yy t c.to = true then 6 else 0 := by unfold z7; rw [if_pos e3]
        rw [hmv] at hM
        have hin0 : inB c.to c.path = false := by
          cases h0 : inB c.to c.path with
          | true => rw [h0] at hM; simp at hM
          | false => rfl
        rw [hin0, if_neg (by decide)] at hM
        have hhit : yy t c.to = false := by
          cases h0 : yy t c.to with
          | true => rw [h0] at hM; simp at hM
          | false => rfl
        have hto : jo t c.to = none := (xi hhit).1
        have hlm := qc7 (v := v) h e3 hto
        rw [hlm] at hx
        have nonil : ∀ q y, jo t q = some y → ¬ q = [] := fun q y hy e => by
          obtain ⟨h6, h7⟩ := y5 hy
          have := (xU (h.ent y h6)).1
          rw [h7, e] at this
          exact zW this [] (by simp [qk]) rfl
        split at hx
        · rename_i hi2
          obtain ⟨r, rfl, hb2, hbi, hr2⟩ := qcq (c := c) hi2
          rw [hb2] at hx hbi
          obtain ⟨x0, hx0, rfl⟩ := Option.map_eq_some_iff.1 hx
          obtain ⟨h1, h2⟩ := y5 hx0
          have he0 := xU (h.ent x0 h1)
          refine ⟨?_, ?_⟩
          · have hpm : qC (yD c v x0).path = 0 := by
              refine Yk he0.1 hpe hpt (by rw [h2]; exact hbi) ?_
              simp only [yC, e3, decide_true, Bool.true_and, List.any_eq_false] at hb
              simpa using hb x0 (List.mem_filter.2 ⟨h1, by unfold zg; rw [h2]; exact hbi⟩)
            refine qaO hpm (fun e => ?_) he0.2.2.1 ?_
            · cases hs0 : x0.text with
              | nil => rfl
              | cons a s => exact absurd ⟨e, by rw [hs0]; simp⟩ he0.2.1
            · split
              · exact hv
              · exact he0.2.2.2
          · rcases hr2 with rfl | hr2
            · rw [List.append_nil]
              rcases xe.1 hf with h3 | ⟨y, h3, h4⟩
              · exact .inl h3
              · refine .inr ⟨y, ?_, h4⟩
                have hne := nonil _ y h3
                have hpi := qbv hpt hne
                rw [hlm, if_neg, if_neg]
                · exact h3
                · intro h5
                  have := Jc hpi h5
                  rw [hin0] at this; cases this
                · intro h5
                  exact qgw hpt (qea h5 hpi)
            · cases r with
              | nil => cases hr2
              | cons a r =>
                simp at hr2
                subst hr2
                obtain ⟨s, hs1, hs2⟩ := qfA (a := c.to) (r := r)
                have hp0 := xe.1 (h.par x0 h1)
                rw [h2, hs1 c.path] at hp0
                rcases hp0 with h3 | ⟨y, h3, h4⟩
                · have : c.path = [] := (List.append_eq_nil_iff.1 h3).1
                  rw [this] at hpe
                  exact absurd rfl (zW hpe [] (by simp [qk]))
                · refine .inr ⟨yD c v y, ?_, h4⟩
                  have hin3 : inB (c.to ++ s) c.to = true := vL.2 ⟨s, rfl, hs2⟩
                  rw [hs1 c.to, hlm, if_pos hin3, show YI c (c.to ++ s) = c.path ++ s from by simp [YI], h3]
                  rfl
        · rename_i hi2
          split at hx
          · cases hx
          · rename_i hi3
            obtain ⟨h1, h2⟩ := y5 hx
            refine ⟨h.ent x h1, ?_⟩
            have hxe := (xU (h.ent x h1)).1
            have := xe.1 (h.par x h1)
            rw [h2] at this hxe
            rcases this with h3 | ⟨y, h3, h4⟩
            · exact .inl h3
            · have hpi := qbv hxe (nonil _ y h3)
              refine .inr ⟨y, ?_, h4⟩
              rw [hlm, if_neg (fun h5 => hi2 (Jc hpi h5)), if_neg (fun h5 => hi3 (Jc hpi h5))]
              exact h3
theorem Right.big {t : List Ent} (h : Right t) : EBig t := ⟨fun x hx => by
  have h1 := xU (h.ent x hx)
  have h2 := jj h1.1
  exact ⟨by omega, by omega⟩, by have := h.len; omega⟩
end Go.Proofs.YtiljlcgmcmjcoaaGreatDoor
set_option linter.unusedSimpArgs false
set_option linter.unnecessarySimpa false
set_option linter.unusedVariables false
set_option maxHeartbeats 1000000
namespace Go.Proofs.YtiljlcgmcmjcoaaGreatDoor
open Go.Ab Go.RowKit
set_option maxRecDepth 10000
attribute [local irreducible] Awp jV q9 qJ Red qy Go.Ab.Fin ql Rz yQ qA qG ResOk jC q6 jH qT
theorem vd (o : List Ent) (r s : List AV) {y z : Ent} (hr : r = y.row := by rfl) (hs : s = z.row := by rfl) : (((o.map Ent.row).take o.length ++ [r]).take (o.length + 1)) ++ [s] = (o ++ ([y] ++ [z])).map Ent.row := by
  subst hr; subst hs
  have e1 : (o.map Ent.row).take o.length = o.map Ent.row := List.take_of_length_le (by simp)
  rw [e1, List.take_of_length_le (by simp)]
  simp
theorem wC (t : List Ent) (x : Ent) (hl : t.length ≤ 400000) : jY C.P 163 [qq t, .agg x.row] (qq (W7 t x)) := by
  refine qa Tryz.func163 rfl _ Tryz.ntmps163 (Nat.le_of_ble_eq_true rfl) _ Tryz.results163 0 rfl rfl ?_
  repeat' (first | refine qe ?_ | fail | ((first | refine qc ?_ ?_ | refine qb ?_ ?_ | refine xsC ?_ ?_); all_goals (intro hc; have hp := hc; try simp at hp; try (exfalso; omega))) | refine qw ?_ ?_)
  refine Awp.red (vw 5 4 rfl (Nat.zero_le _)) ?_
  (refine Awp.red (jq (τ := ⟨[(0, qq t), (3, .op 0 0 0), (5, .os 1 0 0), (6, .v (.bool false)), (7, .v (.int .i64 ((0 : Nat) : Int)))], [(0, .own false 4 [x.row]), (1, .own false 4 [])], 2⟩) [(0, 0), (1, 1)] rfl ?gts ?ghs) ?gmain; (case gts => (repeat (first | exact qd | refine qi ?_ | refine xM ?_ | refine vc ?_ | refine qR ?_ ?_)); all_goals skip); (case ghs => (repeat (first | exact qg | refine jQ ?_ | refine qM ?_ ?_))))
  refine qu (fun n σ => ∃ i : Nat, i ≤ t.length ∧ n = t.length - i ∧ (True) ∧ σ = ⟨[(0, qq t), (3, .op 0 0 0), (5, .os 1 0 (vm (t.take i) x).1.length), (6, .v (.bool (vm (t.take i) x).2)), (7, .v (.int .i64 (i : Int)))], [(0, .own false 4 [x.row]), (1, .own false 4 ((vm (t.take i) x).1.map Ent.row))], 2⟩) t.length ⟨0, Nat.zero_le _, rfl, trivial, rfl⟩ ?_
  rintro n σ ⟨i, hi, rfl, -, rfl⟩
  have hgl := qdX (t.take i) x
  have htl : (t.take i).length ≤ t.length := by simp; omega
  by_cases hlt : i < t.length
  · have hr := qF (f := Ent.row) hlt
    have hgs := @qcJ t x i hlt
    generalize vm (t.take i) x = G at *
    obtain ⟨o, b⟩ := G
    simp only [xa] at hgs
    have hgl : o.length ≤ 2 * (t.take i).length := hgl
    cases b <;> cases hless : Op.bytesLess t[i].path x.path <;> by_cases hpe : t[i].path = x.path
    all_goals try (exfalso; rw [hpe, xu] at hless; exact absurd hless (by decide))
    all_goals simp only [hless, hpe, xu, if_true, if_false, and_true, and_false, and_self, Bool.false_or, Bool.true_or, Bool.not_true, Bool.not_false, List.append_nil, Bool.true_eq_false, Bool.false_eq_true, List.append_assoc] at hgs
    all_goals (
      repeat' (first | refine qe ?_ | (first | (refine jZ ?_) | (refine xw ?_)) | ((first | refine qc ?_ ?_ | refine qb ?_ ?_ | refine xsC ?_ ?_); all_goals (intro hc; have hp := hc; try simp at hp; try (exfalso; omega))) | refine qw ?_ ?_))
    all_goals try (exfalso; first | omega | contradiction | (simp_all; done))
    · refine ⟨t.length - (i + 1), _, by omega, jq (τ := ⟨[(0, qq t), (3, .op 0 0 0), (5, .os 1 0 (vm (t.take (i + 1)) x).1.length), (6, .v (.bool (vm (t.take (i + 1)) x).2)), (7, .v (.int .i64 ((i + 1 : Nat) : Int)))], [(0, .own false 4 [x.row]), (1, .own false 4 ((vm (t.take (i + 1)) x).1.map Ent.row))], 2⟩) [(0, 0), (2, 1)] rfl ?gts ?ghs, i + 1, by omega, rfl, trivial, rfl⟩; (case gts => (repeat (first | exact qd | refine qi ?_ | refine xM ?_ | refine vc ?_ | refine qR ?_ ?_)); all_goals (rw [hgs]; try first | (simp only [List.length_append, List.length_cons, List.length_nil, List.map_append, List.map_cons, List.map_nil, List.append_assoc, List.cons_append, List.nil_append]; done) | (rw [List.take_of_length_le (by simp)]; simp; done) | (simp; done) | exact vd o x.row _)); (case ghs => (repeat (first | exact qg | refine jQ ?_ | refine qM ?_ ?_)); all_goals (rw [hgs]; try first | (simp only [List.length_append, List.length_cons, List.length_nil, List.map_append, List.map_cons, List.map_nil, List.append_assoc, List.cons_append, List.nil_append]; done) | (rw [List.take_of_length_le (by simp)]; simp; done) | (simp; done) | exact vd o x.row _))
    · refine ⟨t.length - (i + 1), _, by omega, jq (τ := ⟨[(0, qq t), (3, .op 0 0 0), (5, .os 1 0 (vm (t.take (i + 1)) x).1.length), (6, .v (.bool (vm (t.take (i + 1)) x).2)), (7, .v (.int .i64 ((i + 1 : Nat) : Int)))], [(0, .own false 4 [x.row]), (1, .own false 4 ((vm (t.take (i + 1)) x).1.map Ent.row))], 2⟩) [(0, 0), (3, 1)] rfl ?gts ?ghs, i + 1, by omega, rfl, trivial, rfl⟩; (case gts => (repeat (first | exact qd | refine qi ?_ | refine xM ?_ | refine vc ?_ | refine qR ?_ ?_)); all_goals (rw [hgs]; try first | (simp only [List.length_append, List.length_cons, List.length_nil, List.map_append, List.map_cons, List.map_nil, List.append_assoc, List.cons_append, List.nil_append]; done) | (rw [List.take_of_length_le (by simp)]; simp; done) | (simp; done) | exact vd o x.row _)); (case ghs => (repeat (first | exact qg | refine jQ ?_ | refine qM ?_ ?_)); all_goals (rw [hgs]; try first | (simp only [List.length_append, List.length_cons, List.length_nil, List.map_append, List.map_cons, List.map_nil, List.append_assoc, List.cons_append, List.nil_append]; done) | (rw [List.take_of_length_le (by simp)]; simp; done) | (simp; done) | exact vd o x.row _))
    · refine ⟨t.length - (i + 1), _, by omega, jq (τ := ⟨[(0, qq t), (3, .op 0 0 0), (5, .os 1 0 (vm (t.take (i + 1)) x).1.length), (6, .v (.bool (vm (t.take (i + 1)) x).2)), (7, .v (.int .i64 ((i + 1 : Nat) : Int)))], [(0, .own false 4 [x.row]), (1, .own false 4 ((vm (t.take (i + 1)) x).1.map Ent.row))], 2⟩) [(0, 0), (2, 1)] rfl ?gts ?ghs, i + 1, by omega, rfl, trivial, rfl⟩; (case gts => (repeat (first | exact qd | refine qi ?_ | refine xM ?_ | refine vc ?_ | refine qR ?_ ?_)); all_goals (rw [hgs]; try first | (simp only [List.length_append, List.length_cons, List.length_nil, List.map_append, List.map_cons, List.map_nil, List.append_assoc, List.cons_append, List.nil_append]; done) | (rw [List.take_of_length_le (by simp)]; simp; done) | (simp; done) | exact vd o x.row _)); (case ghs => (repeat (first | exact qg | refine jQ ?_ | refine qM ?_ ?_)); all_goals (rw [hgs]; try first | (simp only [List.length_append, List.length_cons, List.length_nil, List.map_append, List.map_cons, List.map_nil, List.append_assoc, List.cons_append, List.nil_append]; done) | (rw [List.take_of_length_le (by simp)]; simp; done) | (simp; done) | exact vd o x.row _))
    · refine ⟨t.length - (i + 1), _, by omega, jq (τ := ⟨[(0, qq t), (3, .op 0 0 0), (5, .os 1 0 (vm (t.take (i + 1)) x).1.length), (6, .v (.bool (vm (t.take (i + 1)) x).2)), (7, .v (.int .i64 ((i + 1 : Nat) : Int)))], [(0, .own false 4 [x.row]), (1, .own false 4 ((vm (t.take (i + 1)) x).1.map Ent.row))], 2⟩) [(0, 0), (1, 1)] rfl ?gts ?ghs, i + 1, by omega, rfl, trivial, rfl⟩; (case gts => (repeat (first | exact qd | refine qi ?_ | refine xM ?_ | refine vc ?_ | refine qR ?_ ?_)); all_goals (rw [hgs]; try first | (simp only [List.length_append, List.length_cons, List.length_nil, List.map_append, List.map_cons, List.map_nil, List.append_assoc, List.cons_append, List.nil_append]; done) | (rw [List.take_of_length_le (by simp)]; simp; done) | (simp; done) | exact vd o x.row _)); (case ghs => (repeat (first | exact qg | refine jQ ?_ | refine qM ?_ ?_)); all_goals (rw [hgs]; try first | (simp only [List.length_append, List.length_cons, List.length_nil, List.map_append, List.map_cons, List.map_nil, List.append_assoc, List.cons_append, List.nil_append]; done) | (rw [List.take_of_length_le (by simp)]; simp; done) | (simp; done) | exact vd o x.row _))
    · refine ⟨t.length - (i + 1), _, by omega, jq (τ := ⟨[(0, qq t), (3, .op 0 0 0), (5, .os 1 0 (vm (t.take (i + 1)) x).1.length), (6, .v (.bool (vm (t.take (i + 1)) x).2)), (7, .v (.int .i64 ((i + 1 : Nat) : Int)))], [(0, .own false 4 [x.row]), (1, .own false 4 ((vm (t.take (i + 1)) x).1.map Ent.row))], 2⟩) [(0, 0), (2, 1)] rfl ?gts ?ghs, i + 1, by omega, rfl, trivial, rfl⟩; (case gts => (repeat (first | exact qd | refine qi ?_ | refine xM ?_ | refine vc ?_ | refine qR ?_ ?_)); all_goals (rw [hgs]; try first | (simp only [List.length_append, List.length_cons, List.length_nil, List.map_append, List.map_cons, List.map_nil, List.append_assoc, List.cons_append, List.nil_append]; done) | (rw [List.take_of_length_le (by simp)]; simp; done) | (simp; done) | exact vd o x.row _)); (case ghs => (repeat (first | exact qg | refine jQ ?_ | refine qM ?_ ?_)); all_goals (rw [hgs]; try first | (simp only [List.length_append, List.length_cons, List.length_nil, List.map_append, List.map_cons, List.map_nil, List.append_assoc, List.cons_append, List.nil_append]; done) | (rw [List.take_of_length_le (by simp)]; simp; done) | (simp; done) | exact vd o x.row _))
    · refine ⟨t.length - (i + 1), _, by omega, jq (τ := ⟨[(0, qq t), (3, .op 0 0 0), (5, .os 1 0 (vm (t.take (i + 1)) x).1.length), (6, .v (.bool (vm (t.take (i + 1)) x).2)), (7, .v (.int .i64 ((i + 1 : Nat) : Int)))], [(0, .own false 4 [x.row]), (1, .own false 4 ((vm (t.take (i + 1)) x).1.map Ent.row))], 2⟩) [(0, 0), (2, 1)] rfl ?gts ?ghs, i + 1, by omega, rfl, trivial, rfl⟩; (case gts => (repeat (first | exact qd | refine qi ?_ | refine xM ?_ | refine vc ?_ | refine qR ?_ ?_)); all_goals (rw [hgs]; try first | (simp only [List.length_append, List.length_cons, List.length_nil, List.map_append, List.map_cons, List.map_nil, List.append_assoc, List.cons_append, List.nil_append]; done) | (rw [List.take_of_length_le (by simp)]; simp; done) | (simp; done) | exact vd o x.row _)); (case ghs => (repeat (first | exact qg | refine jQ ?_ | refine qM ?_ ?_)); all_goals (rw [hgs]; try first | (simp only [List.length_append, List.length_cons, List.length_nil, List.map_append, List.map_cons, List.map_nil, List.append_assoc, List.cons_append, List.nil_append]; done) | (rw [List.take_of_length_le (by simp)]; simp; done) | (simp; done) | exact vd o x.row _))
  obtain rfl : i = t.length := by omega
  rw [List.take_length] at *
  have hR : W7 t x = if (vm t x).2 = true then (vm t x).1 else (vm t x).1 ++ [x] := rfl
  generalize vm t x = G at *
  obtain ⟨o, b⟩ := G
  have hgl : o.length ≤ 2 * t.length := hgl
  cases b
  · have hR : W7 t x = o ++ [x] := hR
    rw [hR]
    repeat' (first | refine qe ?_ | (first | (refine jZ ?_) | (refine xw ?_)) | ((first | refine qc ?_ ?_ | refine qb ?_ ?_ | refine xsC ?_ ?_); all_goals (intro hc; have hp := hc; try simp at hp; try (exfalso; omega))) | refine qw ?_ ?_)
    all_goals try (exfalso; omega)
    (refine y6 (rs := [.tmp 4]) ?_; (repeat' (first | exact qZ | apply qm | exact qQ rfl | exact yI | exact z1 | apply yh | apply yX | apply yc | apply y2 | apply yx | apply yW | refine z8 ?_ | apply xS)); all_goals (show (o.map Ent.row).take o.length ++ [x.row] = _; rw [List.take_of_length_le (by simp)]; simp))
  · have hR : W7 t x = o := hR
    rw [hR]
    repeat' (first | refine qe ?_ | (first | (refine jZ ?_) | (refine xw ?_)) | ((first | refine qc ?_ ?_ | refine qb ?_ ?_ | refine xsC ?_ ?_); all_goals (intro hc; have hp := hc; try simp at hp; try (exfalso; omega))) | refine qw ?_ ?_)
    all_goals try (exfalso; omega)
    (exact yv (rs := [.tmp 4]))
end Go.Proofs.YtiljlcgmcmjcoaaGreatDoor
