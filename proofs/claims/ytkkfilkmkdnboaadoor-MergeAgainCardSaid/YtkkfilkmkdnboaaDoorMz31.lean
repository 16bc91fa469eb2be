import Derived.Test.YtkkfilkmkdnboaaDoorMz30
/- Merges in the abstract layer, 6: merge: the beginning. -/
set_option linter.unusedSimpArgs false
set_option linter.unnecessarySimpa false
set_option linter.unusedVariables false
namespace Go.Proofs.YtkkfilkmkdnboaaDoor
open Go.Ab Go.RowKit
set_option maxRecDepth 10000
attribute [local irreducible] Awp Ops OpsX Wanted Red ExOk Go.Ab.Fin ACall Rz RzL RzRows Enters ResOk RenV RenVL ArgV ArgVL

/-- What goes aside, as a map. -/
def goesM (l : List (Str × Str)) : List (List UInt8 × AV) := l.map fun g => (g.1, thgAV ⟨2, g.2⟩)
theorem goesM_pure (l : List (Str × Str)) : ∀ e, e ∈ goesM l → e.2.pure = true := fun e he => by
  obtain ⟨x, _, rfl⟩ := List.mem_map.1 he; rfl
theorem goesM_keys (l : List (Str × Str)) : (goesM l).map (·.1) = l.map (·.1) := by unfold goesM; rw [List.map_map]; rfl
theorem goesL_succ {b m t : List Ent} {P : List Str} {i : Nat} (h : i < P.length) : goesL b m t (P.take (i + 1)) = goesL b m t (P.take i) ++ (if (oneAt b m t P[i]).2.kind = 2 then [(P[i], (oneAt b m t P[i]).2.text)] else []) := by
  unfold goesL
  rw [List.take_succ_eq_append_getElem h, List.filterMap_append]
  congr 1
  by_cases hk : (oneAt b m t P[i]).2.kind = 2 <;> simp [hk]
theorem goesL_sub {b m t : List Ent} {P : List Str} : ∀ g, g ∈ goesL b m t P → g.1 ∈ P := fun g hg => by
  obtain ⟨p, h1, h2⟩ := List.mem_filterMap.1 hg
  split at h2
  · injection h2 with h2; subst h2; exact h1
  · cases h2
theorem outL_succ {b m t : List Ent} {P : List Str} {i : Nat} (h : i < P.length) : outL b m t (P.take (i + 1)) = putK (outL b m t (P.take i)) P[i] (oneAt b m t P[i]).1 := by
  unfold outL
  rw [List.take_succ_eq_append_getElem h, List.foldl_append]; rfl
theorem goes_new {b m t : List Ent} {P : List Str} (hP : P.Nodup) {i : Nat} (h : i < P.length) : P[i] ∉ (goesL b m t (P.take i)).map (·.1) := fun hm => by
  obtain ⟨g, hg, he⟩ := List.mem_map.1 hm
  have h1 := goesL_sub g hg
  rw [he] at h1
  obtain ⟨j, hj, h2⟩ := List.getElem_of_mem h1
  rw [List.getElem_take] at h2
  have hj' : j < i := by simp at hj; omega
  have := (List.getElem_inj (h₀ := by omega) (h₁ := h) hP (i := j) (j := i)).1 h2
  omega
theorem out_new {b m t : List Ent} {P : List Str} (hP : P.Nodup) {i : Nat} (h : i < P.length) : look (outL b m t (P.take i)) P[i] = none := by
  have := (outL_look b m t (P := P.take i) (o := []) rfl).2 P[i]
  show look (List.foldl _ [] _) _ = _
  rw [this, if_neg]
  · rfl
  · rintro ⟨hm, _⟩
    obtain ⟨j, hj, h2⟩ := List.getElem_of_mem hm
    rw [List.getElem_take] at h2
    have hj' : j < i := by simp at hj; omega
    have := (List.getElem_inj (h₀ := by omega) (h₁ := h) hP (i := j) (j := i)).1 h2
    omega
/-- What is put, or struck, as the entries that come of it. -/
theorem side_putK {o : List Ent} {p : Str} {x : Thg} (h : rising entLt o = true) (hg : GoodT x) (hn : look o p = none) : (if x.kind = 0 then mapDel (sideM o) p else mapPut (sideM o) p (thgAV x)).Perm (sideM (putK o p x)) := by
  unfold putK
  split
  · rw [mapDel_none]
    rw [sideM_keys]
    intro hm
    obtain ⟨e, he, hp⟩ := List.mem_map.1 hm
    exact look_none.1 hn e he hp
  · rename_i h0
    exact side_put2 h hg h0
theorem side_putP (l : List (List UInt8 × AV)) (p : Str) (x : Thg) (hp : ∀ e, e ∈ l → e.2.pure = true) : ∀ e, e ∈ (if x.kind = 0 then mapDel l p else mapPut l p (thgAV x)) → e.2.pure = true := by
  split
  · intro e he; exact hp e (List.mem_filter.1 he).1
  · intro e he
    unfold mapPut at he
    split at he
    · rcases List.mem_or_eq_of_mem_set he with h | rfl
      · exact hp e h
      · rfl
    · rcases List.mem_append.1 he with h | h
      · exact hp e h
      · rw [List.mem_singleton.1 h]; rfl
noncomputable def C5 : Cx := { C with nh := 5 }
def H5 (B M T : List Ent) : List HB := [.own false 5 [[.mp 1, .mp 2, .mp 3, .mp 4, .sl true []]], .mp (sideM B), .mp (sideM M), .mp (sideM T), .mp (sideM [])]
/-- All paths, after so many of the three sides. -/
def keysP (b m t : List Ent) : Nat → List Str
  | 0 => []
  | 1 => (b.map Ent.path).foldl putS []
  | 2 => (m.map Ent.path).foldl putS ((b.map Ent.path).foldl putS [])
  | _ => (t.map Ent.path).foldl putS ((m.map Ent.path).foldl putS ((b.map Ent.path).foldl putS []))
theorem keysP_all (b m t : List Ent) : keysP b m t 3 = allP b m t := by
  unfold keysP allP
  rw [List.map_append, List.map_append, List.foldl_append, List.foldl_append]
  rfl
theorem foldS_len : ∀ (L l : List Str), (L.foldl putS l).length ≤ L.length + l.length
  | [], l => by simp
  | a :: L, l => by
    have h1 := foldS_len L (putS l a)
    have h2 : (putS l a).length ≤ l.length + 1 := by
      unfold putS
      split
      · omega
      · have h3 := (List.takeWhile_sublist (fun x => Op.bytesLess x a) (l := l)).length_le
        have h4 : (l.takeWhile (fun x => Op.bytesLess x a) ++ l.dropWhile (fun x => Op.bytesLess x a)).length = l.length := by rw [List.takeWhile_append_dropWhile]
        rw [List.length_append] at h4
        rw [List.length_append, List.length_cons, ← h4]
        exact Nat.le_of_eq (by rw [Nat.add_assoc])
    simp only [List.foldl_cons, List.length_cons]
    omega
theorem q_row3 {L : List (Nat × Nat)} {nh : Nat} {σ : St} {n n' : Nat} {ex ex' : Bool} {k : Nat} {r1 r2 r3 s1 s2 s3 : List AV} {l : List (Nat × HB)} (h1 : RenVL L nh r1 s1) (h2 : RenVL L nh r2 s2) (h3 : RenVL L nh r3 s3) (hl : HsOk L nh σ l) (hm : Maps L nh n n' := by (first | exact maps_low rfl | exact .inr (List.mem_cons_self ..) | exact .inr (List.mem_cons_of_mem _ (List.mem_cons_self ..)) | exact .inr (List.mem_cons_of_mem _ (List.mem_cons_of_mem _ (List.mem_cons_self ..))) | exact .inr (List.mem_cons_of_mem _ (List.mem_cons_of_mem _ (List.mem_cons_of_mem _ (List.mem_cons_self ..)))))) (hx : getH σ.hs n = .own ex k [r1, r2, r3] := by rfl) (he : ex' = true → ex = true := by first | exact id | exact nofun) : HsOk L nh σ ((n', .own ex' k [s1, s2, s3]) :: l) :=
  hsok_own hm hx he (renrows_cons h1 (renrows_cons h2 (renrows_cons h3 renrows_nil))) hl
end Go.Proofs.YtkkfilkmkdnboaaDoor

/- Merges, plain: what the walk of merge asks. -/
set_option linter.unusedSimpArgs false
set_option linter.unnecessarySimpa false
set_option linter.unusedVariables false
namespace Go.Ab
/-- One step that goes one way. -/
theorem walk1 {G G' : Prop} (k : G') (h : Hold G' → G := by intro key; (first | (apply opsx_val; first | (apply ex_move; (conv => lhs; whnf); exact nle rfl) | (apply ex_assign; (conv => lhs; whnf); exact nle rfl) | (apply ex_pick_true; rfl; (conv => lhs; whnf); exact nle rfl) | (apply ex_pick_false; rfl; (conv => lhs; whnf); exact nle rfl) | (apply ex_icmp; rfl; rfl; rfl; exact nle rfl) | (apply ex_fieldAddr_own; rfl; rfl; rfl; rfl; exact nofun; exact nle rfl) | (apply ex_fieldAddr_fp; rfl; rfl; rfl; rfl; exact nofun; exact nle rfl) | (apply ex_load_own_row; rfl; rfl; rfl; (first | rfl | assumption | (apply getSet; assumption) | (apply getSet; apply getSet; assumption)); rfl; rfl; exact nle rfl) | (apply ex_load_fp_row; rfl; rfl; (first | rfl | assumption | (apply getSet; assumption) | (apply getSet; apply getSet; assumption)); rfl; rfl; exact nle rfl) | (apply ex_load_fz_row; rfl; rfl; rfl; rfl; rfl; rfl; exact nle rfl) | (apply ex_load_own; rfl; rfl; rfl; (first | rfl | assumption | (apply getSet; assumption) | (apply getSet; apply getSet; assumption)); (conv => lhs; whnf); exact nle rfl) | (apply ex_load_fp; rfl; rfl; (first | rfl | assumption | (apply getSet; assumption) | (apply getSet; apply getSet; assumption)); (conv => lhs; whnf); exact nle rfl) | (apply ex_scmp; rfl; rfl; rfl; exact nle rfl) | (apply ex_len_sl; rfl; rfl; rfl; exact nle rfl) | (apply ex_len_str; rfl; rfl; rfl; exact nle rfl) | (apply ex_len_own; rfl; rfl; rfl; exact nle rfl) | (apply ex_indexAddr_sl; rfl; rfl; rfl; rfl; rfl; (first | rfl | assumption | (apply getSet; assumption) | (apply getSet; apply getSet; assumption)); rfl; exact nle rfl) | (apply ex_index_str; rfl; rfl; rfl; rfl; (first | rfl | assumption | (apply getSet; assumption) | (apply getSet; apply getSet; assumption)); exact nle rfl) | (apply ex_succ; rfl; rfl; omega; exact nle rfl) | (apply ex_pred; rfl; rfl; omega; exact nle rfl) | (apply ex_add; rfl; rfl; omega; omega; exact nle rfl) | (apply ex_sub; rfl; rfl; omega; omega; exact nle rfl) | (apply ex_not; rfl; exact nle rfl) | (apply ex_extract; rfl; (conv => lhs; whnf); exact nle rfl) | (apply ex_field; rfl; rfl; rfl; rfl; (conv => lhs; whnf); exact nle rfl) | (apply ex_pick (b' := true); rfl; assumption; (conv => lhs; whnf); exact nle rfl) | (apply ex_pick (b' := false); rfl; assumption; (conv => lhs; whnf); exact nle rfl) | (apply ex_func; exact nle rfl) | (apply ex_nilCheck_op; rfl; exact nle rfl) | (apply ex_nilCheck_fp; rfl; exact nle rfl) | (apply ex_build; rfl; rfl; rfl; (conv => lhs; whnf); exact nle rfl) | (apply ex_load_fz; rfl; rfl; rfl; rfl; (conv => lhs; whnf); exact nle rfl) | (apply ex_sadd; rfl; rfl; (first | omega | (simp <;> fail) | (simp only [List.length_cons, List.length_nil, List.length_map]; omega) | (simp; omega)); exact nle rfl)) | (apply opsx_new; first | (apply ex_alloc; rfl; exact nle rfl) | (apply ex_box; rfl; exact nle rfl)) | (apply opsx_store; apply ex_store; rfl; rfl; rfl; (first | rfl | assumption | (apply getSet; assumption) | (apply getSet; apply getSet; assumption)); rfl; rfl; exact nle rfl) | apply ops_free | (apply ops_nil; exact nle rfl; refine ⟨?_, ?_⟩; first | exact fun h => absurd h Bool.false_ne_true | (intro _; kernel_rfl)) | (apply ops_on_t; rfl; rfl; exact nle rfl) | (apply ops_on_f; rfl; rfl; exact nle rfl) | (apply ops_off_t; rfl; rfl; exact nle rfl) | (apply ops_off_f; rfl; rfl; exact nle rfl) | (apply ops_unwanted; rfl; rfl; exact nle rfl) | (apply ops_yes; rfl; rfl; assumption; exact nle rfl) | (apply ops_no_t; rfl; rfl; assumption; exact nle rfl) | (apply ops_no_f; rfl; rfl; assumption; exact nle rfl) | apply awp_seq | apply awp_region | (apply awp_cond_t; rfl) | (apply awp_cond_f; rfl) | (apply awp_cond_y; rfl; assumption) | (apply awp_cond_n; rfl; assumption) | apply awp_block | apply awp_skip | apply awp_exit | apply awp_ret); exact key.out) : G := h ⟨k⟩
end Go.Ab
namespace Go.Proofs.YtkkfilkmkdnboaaDoor
open Go.Ab Go.RowKit
set_option maxRecDepth 10000

theorem goesM_put {l : List (Str × Str)} {p x : Str} (h : p ∉ l.map (·.1)) : mapPut (goesM l) p (thgAV ⟨2, x⟩) = goesM (l ++ [(p, x)]) := by
  rw [mapPut_new (by rw [goesM_keys]; exact h)]
  unfold goesM
  rw [List.map_append]
  rfl
theorem goesM_get {l : List (Str × Str)} (h : (l.map (·.1)).Nodup) {g : Str × Str} (hg : g ∈ l) : (mapGet (goesM l) g.1).getD (thgAV noT) = thgAV ⟨2, g.2⟩ := by
  have : mapGet (goesM l) g.1 = some (thgAV ⟨2, g.2⟩) := (mapGet_mem (by rw [goesM_keys]; exact h)).2 (List.mem_map.2 ⟨g, hg, rfl⟩)
  rw [this]
  rfl
theorem goes_sub (b m t : List Ent) : ∀ P : List Str, ((goesL b m t P).map (·.1)).Sublist P
  | [] => .slnil
  | p :: P => by
    unfold goesL
    rw [List.filterMap_cons]
    split
    · exact (goes_sub b m t P).cons p
    · rename_i y hy
      split at hy
      · injection hy with hy; subst hy
        exact (goes_sub b m t P).cons_cons p
      · cases hy
theorem goes_ris {b m t : List Ent} {P : List Str} (h : risS P) : risS ((goesL b m t P).map (·.1)) := List.Pairwise.sublist (goes_sub b m t P) h
theorem goes_len (b m t : List Ent) (P : List Str) : (goesL b m t P).length ≤ P.length := by
  have := (goes_sub b m t P).length_le
  rwa [List.length_map] at this
theorem goS_drop {m t : List Ent} {G : List (Str × Str)} {i : Nat} (h : i < G.length) (s : MS) : goS m t (G.drop i) s = match asideS m t s G[i].1 G[i].2 with | none => none | some s' => goS m t (G.drop (i + 1)) s' := by
  rw [List.drop_eq_getElem_cons h]; rfl
theorem asideS_none {m t : List Ent} {s : MS} {p x : Str} (h : asideN m t s.out p 99 1 = none) : asideS m t s p x = none := by
  unfold asideS; rw [h]
theorem asideS_some {m t : List Ent} {s : MS} {p x q : Str} (h : asideN m t s.out p 99 1 = some q) : asideS m t s p x = some ⟨putT s.out ⟨q, false, x, 1⟩, s.cps ++ [⟨p, q⟩]⟩ := by
  unfold asideS; rw [h]
theorem outL_inv {b m t : List Ent} (hb : Right b) (hm : Right m) (ht : Right t) (P : List Str) : rising entLt (outL b m t P) = true := (outL_look b m t (P := P) (o := []) rfl).1
theorem good_one (b m t : List Ent) (p : Str) : GoodT (oneAt b m t p).1 ∧ GoodT (oneAt b m t p).2 := one_good (good_st m p) (good_st t p)
theorem mapPut_same {s : List UInt8} {x : AV} : ∀ {l : List (List UInt8 × AV)}, mapGet l s = some x → mapPut l s x = l
  | [], h => by simp [mapGet] at h
  | e :: l, h => by
    rw [mapPut_cons]
    by_cases he : e.1 = s
    · rw [if_pos he]
      unfold mapGet at h
      rw [List.find?_cons, show (e.1 == s) = true from by simpa using he] at h
      simp at h
      subst he
      rw [← h]
    · rw [if_neg he, mapPut_same]
      unfold mapGet at h ⊢
      rw [List.find?_cons, show (e.1 == s) = false from by simpa using he] at h
      exact h
/-- A folder put where one is. -/
theorem side_fold {o : List Ent} {q : Str} (h : (stT o q).kind = 1) : mapPut (sideM o) q (thgAV ⟨1, []⟩) = sideM o := by
  apply mapPut_same
  rw [sideM_get]
  obtain ⟨x, hx, hf⟩ := st_one.1 h
  rw [hx]
  show some (thgAV (thgOf x)) = _
  unfold thgOf
  rw [if_pos hf]
theorem parS_one {m t : List Ent} {s : MS} {q : Str} (h : (stT s.out q).kind = 1) : parS m t s q = some s := by unfold parS; rw [if_pos h]
theorem parS_zero {m t : List Ent} {s : MS} {q : Str} (h1 : ¬ (stT s.out q).kind = 1) (h2 : ¬ (stT s.out q).kind = 2) : parS m t s q = some ⟨putT s.out ⟨q, true, [], 1⟩, s.cps⟩ := by unfold parS; rw [if_neg h1, if_neg h2]
theorem parS_two {m t : List Ent} {s : MS} {q : Str} (h : (stT s.out q).kind = 2) : parS m t s q = asideS m t ⟨putT s.out ⟨q, true, [], 1⟩, s.cps⟩ q (stT s.out q).text := by unfold parS; rw [if_neg (by rw [h]; decide), if_pos h]
theorem parsS_cons {m t : List Ent} {q : Str} {l : List Str} {s : MS} : parsS m t (q :: l) s = match parS m t s q with | none => none | some s' => parsS m t l s' := rfl
theorem asideS_len {m t : List Ent} {s s' : MS} {p x : Str} (h : asideS m t s p x = some s') : s'.cps.length = s.cps.length + 1 := asideS_more h
theorem out_len (b m t : List Ent) : ∀ (P : List Str) (o : List Ent), (P.foldl (fun o p => putK o p (oneAt b m t p).1) o).length ≤ o.length + P.length
  | [], o => Nat.le_refl _
  | p :: P, o => by
    have h1 := out_len b m t P (putK o p (oneAt b m t p).1)
    have h2 : (putK o p (oneAt b m t p).1).length ≤ o.length + 1 := by
      unfold putK
      split
      · omega
      · exact putT_len _ _
    simp only [List.foldl_cons, List.length_cons]
    omega
theorem goS_len {m t : List Ent} : ∀ {l : List (Str × Str)} {s s' : MS}, goS m t l s = some s' → s'.out.length ≤ s.out.length + l.length
  | [], s, s', h => by injection h with h; subst h; exact Nat.le_refl _
  | g :: l, s, s', h => by
    unfold goS at h
    split at h
    · cases h
    · rename_i s1 h1
      have h2 := goS_len h
      unfold asideS at h1
      split at h1
      · cases h1
      · rename_i q _
        injection h1 with h1; subst h1
        have h3 := putT_len s.out ⟨q, false, g.2, 1⟩
        simp only [List.length_cons] at h2 ⊢
        omega
theorem pars_len {p : Str} (hp : pathErr p = 0) : (parsOf p).length ≤ 80 := by
  rw [parsOf_len]
  have := namesOf_many p
  have := pathErr_small hp
  omega
/-- The code of merge, and what stands behind so many of its statements. -/
noncomputable def tl : Nat → Code → Code
  | 0, c => c
  | n + 1, .seq _ b => tl n b
  | _, c => c
noncomputable def mergeCode : Code := match Tryd.f71.body with | some c => c | none => .skip
def H8 (B M T : List Ent) (s : MS) : List HB := [.own false 5 [mrow 5 s.cps.length], .mp (sideM B), .mp (sideM M), .mp (sideM T), .mp (sideM s.out), .own false 2 (s.cps.map Cpy.row)]
def H8o (B M T : List Ent) : Option MS → List HB
  | none => [.dead, .dead, .dead, .dead, .dead]
  | some s => H8 B M T s
theorem renhb_perm {L : List (Nat × Nat)} {nh : Nat} {l l' : List (List UInt8 × AV)} (hp : l.Perm l') (h : ∀ e, e ∈ l' → e.2.pure = true) : RenHB L nh (.mp (.map l)) (.mp (.map l')) := by
  obtain ⟨m, h1, h2, h3⟩ := renhb_mp (L := L) (nh := nh) h
  exact ⟨m, by first | exact hp.trans h1 | exact h1.trans hp | exact h1.trans hp.symm | exact hp.symm.trans h1, h2, h3⟩
/-- The merger's own row, kept. -/
theorem q_mrow {L : List (Nat × Nat)} {σ : St} {n n' c c' k : Nat} {ex ex' : Bool} {l : List (Nat × HB)} (hl : HsOk L 5 σ l) (hm : Maps L 5 n n' := by (first | exact maps_low rfl | exact .inr (List.mem_cons_self ..) | exact .inr (List.mem_cons_of_mem _ (List.mem_cons_self ..)) | exact .inr (List.mem_cons_of_mem _ (List.mem_cons_of_mem _ (List.mem_cons_self ..))) | exact .inr (List.mem_cons_of_mem _ (List.mem_cons_of_mem _ (List.mem_cons_of_mem _ (List.mem_cons_self ..)))))) (hc : Maps L 5 c c' := by (first | exact maps_low rfl | exact .inr (List.mem_cons_self ..) | exact .inr (List.mem_cons_of_mem _ (List.mem_cons_self ..)) | exact .inr (List.mem_cons_of_mem _ (List.mem_cons_of_mem _ (List.mem_cons_self ..))) | exact .inr (List.mem_cons_of_mem _ (List.mem_cons_of_mem _ (List.mem_cons_of_mem _ (List.mem_cons_self ..)))))) (hx : getH σ.hs n = .own ex 5 [mrow c k] := by rfl) (he : ex' = true → ex = true := by first | exact id | exact nofun) : HsOk L 5 σ ((n', .own ex' 5 [mrow c' k]) :: l) :=
  hsok_own hm hx he (renrows_cons (renl_cons (ren_mp (maps_low rfl)) (renl_cons (ren_mp (maps_low rfl)) (renl_cons (ren_mp (maps_low rfl)) (renl_cons (ren_mp (maps_low rfl)) (renl_cons (ren_os hc) renl_nil))))) renrows_nil) hl
end Go.Proofs.YtkkfilkmkdnboaaDoor

/- Merges in the abstract layer, 9: merge: what the paths are within. -/
set_option linter.unusedSimpArgs false
set_option linter.unnecessarySimpa false
set_option linter.unusedVariables false
set_option maxHeartbeats 1000000
namespace Go.Proofs.YtkkfilkmkdnboaaDoor
open Go.Ab Go.RowKit
set_option maxRecDepth 10000
attribute [local irreducible] Awp Ops OpsX Wanted Red ExOk Go.Ab.Fin ACall Rz RzL RzRows Enters ResOk RenV RenVL ArgV ArgVL
set_option maxHeartbeats 16000000 in
theorem m_merge_c (B M T : List Ent) (s : MS) (iS : MInv s.out) (lS : s.out.length ≤ 360) (hcl0 : s.cps.length ≤ 180) (R : Option MS) (hms2 : parsS M T ((s.out.map Ent.path).flatMap parsOf) s = R) :
    Awp C5 125 (tl 6 mergeCode) (finQ C5 #[ResultVar.tmp 2] 5 (.v (.bool R.isSome)) (H8o B M T R)) ⟨[(0, .op 0 0 0)], [(0, .own false 5 [mrow 5 s.cps.length]), (1, .mp (sideM B)), (2, .mp (sideM M)), (3, .mp (sideM T)), (4, .mp (sideM s.out)), (5, .own false 2 (s.cps.map Cpy.row))], 6⟩ := by
  conv => arg 3; whnf
  have pS : ∀ x, x ∈ s.out.map Ent.path → pathErr x = 0 := fun x hx => by
    obtain ⟨e, he, rfl⟩ := List.mem_map.1 hx
    exact (entErr_zero (iS.ent e he)).1
  have ap3 := a_paths (sideM s.out) (s.out.map Ent.path) (ris_paths iS.rise) (by rw [sideM_keys]) (by rw [List.length_map]; omega) (fun x hx => Nat.le_trans (pathErr_small (pS x hx)) (by decide))
  have lS2 : (s.out.map Ent.path).length ≤ 360 := by rw [List.length_map]; exact lS
  generalize s.out.map Ent.path = K3 at *
  repeat' (first | refine walk ?_ | (first | fail) | ((first | (apply ops_split_t; rfl; rfl; exact nle rfl) | (apply ops_split_f; rfl; rfl; exact nle rfl) | (apply awp_cond; rfl)); all_goals (intro hc; have hp := hc; first | (simp at hp; done) | ((try simp at hp); first | (exfalso; omega) | skip))) | (apply awp_cond_any; rfl))
  all_goals try (exfalso; omega)
  apply to_call Tryd.func72 rfl rfl
  intro hIsFn
  refine o_callm [4] [6] [(4, .mp (sideM s.out)), (6, .own false 1 (K3.map strAV))] 7 (.os 6 0 K3.length) hIsFn (ap3) (by ((repeat' (first | exact argvl_nil | apply argvl_cons | exact argv_pure rfl | exact argv_ex | (apply argv_ren; apply ren_op; exact .inr (of_decide_eq_true rfl)) | (apply argv_ren; apply ren_mp; exact .inr (of_decide_eq_true rfl)) | (apply argv_ren; apply ren_os; exact .inr (of_decide_eq_true rfl)) | apply argv_agg | apply argv_clo))) <;> fail) (by ((repeat' (first | exact give_nil | exact back_nil | refine give_cons _ ?_ ?_ | refine back_cons ?_ ?_ | exact renhb_dead | exact renhb_mp (sideM_pure _) | exact renhb_mp (jk_pure _) | exact renhb_mp (goesM_pure _) | exact renhb_map (fun _ => rfl) | refine renhb_row ?_ | exact renl_nil | apply renl_cons | exact ren_pure rfl | (apply ren_mp; exact .inr (of_decide_eq_true rfl)) | (apply ren_os; exact .inr (of_decide_eq_true rfl)) | (apply ren_op; exact .inr (of_decide_eq_true rfl)) | fail))) <;> fail) (by ((repeat' (first | exact give_nil | exact back_nil | refine give_cons _ ?_ ?_ | refine back_cons ?_ ?_ | exact renhb_dead | exact renhb_mp (sideM_pure _) | exact renhb_mp (jk_pure _) | exact renhb_mp (goesM_pure _) | exact renhb_map (fun _ => rfl) | refine renhb_row ?_ | exact renl_nil | apply renl_cons | exact ren_pure rfl | (apply ren_mp; exact .inr (of_decide_eq_true rfl)) | (apply ren_os; exact .inr (of_decide_eq_true rfl)) | (apply ren_op; exact .inr (of_decide_eq_true rfl)) | fail))) <;> fail) ?_
  repeat' (first | refine walk ?_ | (first | fail) | ((first | (apply ops_split_t; rfl; rfl; exact nle rfl) | (apply ops_split_f; rfl; rfl; exact nle rfl) | (apply awp_cond; rfl)); all_goals (intro hc; have hp := hc; first | (simp at hp; done) | ((try simp at hp); first | (exfalso; omega) | skip))) | (apply awp_cond_any; rfl))
  all_goals try (exfalso; omega)
  clear ap3
  (refine Awp.red (red_ren (τ := ⟨[(0, .op 0 0 0), (88, .os 6 0 K3.length), (89, .v (.int .i64 K3.length)), (90, .v (.int .i64 ((0 : Nat) : Int)))], [(0, .own false 5 [mrow 5 s.cps.length]), (1, .mp (sideM B)), (2, .mp (sideM M)), (3, .mp (sideM T)), (4, .mp (sideM s.out)), (5, .own false 2 (s.cps.map Cpy.row)), (6, .own false 1 (K3.map strAV))], 7⟩) [(5, 5), (6, 6)] rfl ?gts2 ?ghs2) ?_; (case gts2 => (repeat (first | exact tsok_nil | refine p_pure ?_ | refine p_op ?_ | refine p_osr ?_ | refine p_mp ?_ | refine p_osx ?_ ?_ | refine p_eq ?_ ?_)); all_goals (first | rfl | (rw [List.length_map]; done) | trace_state)); (case ghs2 => (repeat' (first | exact hsok_nil | refine q_mrow ?_ | refine q_pm ?_ ?_ ?_ | refine q_r ?_)); all_goals (first | with_reducible exact sideM_pure _ | with_reducible exact List.Perm.refl _ | rfl | trace_state)))
  have hri0 := iS.rise
  refine awp_loop (fun n σ => ∃ (i : Nat) (s : MS), i ≤ K3.length ∧ n = K3.length - i ∧ (parsS M T ((K3.drop i).flatMap parsOf) s = R ∧ rising entLt s.out = true ∧ s.cps.length ≤ 180 + 80 * i) ∧ σ = ⟨[(0, .op 0 0 0), (88, .os 6 0 K3.length), (89, .v (.int .i64 K3.length)), (90, .v (.int .i64 (i : Int)))], [(0, .own false 5 [mrow 5 s.cps.length]), (1, .mp (sideM B)), (2, .mp (sideM M)), (3, .mp (sideM T)), (4, .mp (sideM s.out)), (5, .own false 2 (s.cps.map Cpy.row)), (6, .own false 1 (K3.map strAV))], 7⟩) K3.length ⟨0, s, by omega, rfl, ⟨hms2, hri0, by omega⟩, rfl⟩ ?_
  clear hri0 hcl0 hms2 iS lS s
  rintro n σ ⟨i, s, hi, rfl, ⟨hpa, hri, hcl⟩, rfl⟩
  by_cases hlt : i < K3.length
  · have hrow : (K3.map strAV)[i]? = some (strAV K3[i]) := by rw [List.getElem?_map, List.getElem?_eq_getElem hlt]; rfl
    have hpe := pS K3[i] (List.getElem_mem hlt)
    have apr := a_parents K3[i] hpe
    have lQ := pars_len hpe
    have rQ : ∀ a, a ∈ parsOf K3[i] → pathErr a = 0 := fun a ha => pars_right hpe ha
    rw [List.drop_eq_getElem_cons hlt, List.flatMap_cons] at hpa
    generalize parsOf K3[i] = Q at *
    repeat' (first | refine walk ?_ | (first | (refine o_ixo ?_)) | ((first | (apply ops_split_t; rfl; rfl; exact nle rfl) | (apply ops_split_f; rfl; rfl; exact nle rfl) | (apply awp_cond; rfl)); all_goals (intro hc; have hp := hc; first | (simp at hp; done) | ((try simp at hp); first | (exfalso; omega) | skip))) | (apply awp_cond_any; rfl))
    all_goals try (exfalso; first | omega | contradiction)
    apply to_call Tryd.func96 rfl rfl
    intro hIsFn2
    refine o_callm [] [7] [(7, .own false 1 (Q.map strAV))] 8 (.os 7 0 Q.length) hIsFn2 (apr) (by ((repeat' (first | exact argvl_nil | apply argvl_cons | exact argv_pure rfl | exact argv_ex | (apply argv_ren; apply ren_op; exact .inr (of_decide_eq_true rfl)) | (apply argv_ren; apply ren_mp; exact .inr (of_decide_eq_true rfl)) | (apply argv_ren; apply ren_os; exact .inr (of_decide_eq_true rfl)) | apply argv_agg | apply argv_clo))) <;> fail) (by ((repeat' (first | exact give_nil | exact back_nil | refine give_cons _ ?_ ?_ | refine back_cons ?_ ?_ | exact renhb_dead | exact renhb_mp (sideM_pure _) | exact renhb_mp (jk_pure _) | exact renhb_mp (goesM_pure _) | exact renhb_map (fun _ => rfl) | refine renhb_row ?_ | exact renl_nil | apply renl_cons | exact ren_pure rfl | (apply ren_mp; exact .inr (of_decide_eq_true rfl)) | (apply ren_os; exact .inr (of_decide_eq_true rfl)) | (apply ren_op; exact .inr (of_decide_eq_true rfl)) | fail))) <;> fail) (by ((repeat' (first | exact give_nil | exact back_nil | refine give_cons _ ?_ ?_ | refine back_cons ?_ ?_ | exact renhb_dead | exact renhb_mp (sideM_pure _) | exact renhb_mp (jk_pure _) | exact renhb_mp (goesM_pure _) | exact renhb_map (fun _ => rfl) | refine renhb_row ?_ | exact renl_nil | apply renl_cons | exact ren_pure rfl | (apply ren_mp; exact .inr (of_decide_eq_true rfl)) | (apply ren_os; exact .inr (of_decide_eq_true rfl)) | (apply ren_op; exact .inr (of_decide_eq_true rfl)) | fail))) <;> fail) ?_
    repeat' (first | refine walk ?_ | (first | fail) | ((first | (apply ops_split_t; rfl; rfl; exact nle rfl) | (apply ops_split_f; rfl; rfl; exact nle rfl) | (apply awp_cond; rfl)); all_goals (intro hc; have hp := hc; first | (simp at hp; done) | ((try simp at hp); first | (exfalso; omega) | skip))) | (apply awp_cond_any; rfl))
    all_goals try (exfalso; first | omega | contradiction)
    clear apr hpe
    generalize hRest : (K3.drop (i + 1)).flatMap parsOf = rest at *
    (refine Awp.red (red_ren (τ := ⟨[(0, .op 0 0 0), (88, .os 6 0 K3.length), (89, .v (.int .i64 K3.length)), (90, .v (.int .i64 (i : Int))), (95, .os 7 0 Q.length), (96, .v (.int .i64 Q.length)), (97, .v (.int .i64 ((0 : Nat) : Int)))], [(0, .own false 5 [mrow 5 s.cps.length]), (1, .mp (sideM B)), (2, .mp (sideM M)), (3, .mp (sideM T)), (4, .mp (sideM s.out)), (5, .own false 2 (s.cps.map Cpy.row)), (6, .own false 1 (K3.map strAV)), (7, .own false 1 (Q.map strAV))], 8⟩) [(5, 5), (6, 6), (7, 7)] rfl ?gts2 ?ghs2) ?_; (case gts2 => (repeat (first | exact tsok_nil | refine p_pure ?_ | refine p_op ?_ | refine p_osr ?_ | refine p_mp ?_ | refine p_osx ?_ ?_ | refine p_eq ?_ ?_)); all_goals (first | rfl | (rw [List.length_map]; done) | trace_state)); (case ghs2 => (repeat' (first | exact hsok_nil | refine q_mrow ?_ | refine q_pm ?_ ?_ ?_ | refine q_r ?_)); all_goals (first | with_reducible exact sideM_pure _ | with_reducible exact List.Perm.refl _ | rfl | trace_state)))
    refine awp_loop (fun n σ => ∃ (j : Nat) (s : MS), j ≤ Q.length ∧ n = Q.length - j ∧ (parsS M T (Q.drop j ++ rest) s = R ∧ rising entLt s.out = true ∧ s.cps.length ≤ 180 + 80 * i + j) ∧ σ = ⟨[(0, .op 0 0 0), (88, .os 6 0 K3.length), (89, .v (.int .i64 K3.length)), (90, .v (.int .i64 (i : Int))), (95, .os 7 0 Q.length), (96, .v (.int .i64 Q.length)), (97, .v (.int .i64 (j : Int)))], [(0, .own false 5 [mrow 5 s.cps.length]), (1, .mp (sideM B)), (2, .mp (sideM M)), (3, .mp (sideM T)), (4, .mp (sideM s.out)), (5, .own false 2 (s.cps.map Cpy.row)), (6, .own false 1 (K3.map strAV)), (7, .own false 1 (Q.map strAV))], 8⟩) Q.length ⟨0, s, by omega, rfl, ⟨hpa, hri, by omega⟩, rfl⟩ ?_
    clear hpa hri hcl s
    rintro n σ ⟨j, s, hj, rfl, ⟨hpa, hri, hcl⟩, rfl⟩
    by_cases hjl : j < Q.length
    · have hrow2 : (Q.map strAV)[j]? = some (strAV Q[j]) := by rw [List.getElem?_map, List.getElem?_eq_getElem hjl]; rfl
      have hqe := rQ Q[j] (List.getElem_mem hjl)
      rw [List.drop_eq_getElem_cons hjl, List.cons_append, parsS_cons] at hpa
      generalize Q[j] = q at *
      have hget := side_get s.out q
      have hpt := side_put (e := ⟨q, true, [], 1⟩) hri
      have hro2 : rising entLt (putT s.out (⟨q, true, [], 1⟩ : Ent)) = true := putT_rising hri
      have ano := m_aside_no B M T (putT s.out (⟨q, true, [], 1⟩ : Ent)) s.cps q (stT s.out q).text hqe
      have ayes := fun q' => m_aside_yes B M T (putT s.out (⟨q, true, [], 1⟩ : Ent)) s.cps q (stT s.out q).text q' hqe
      have hgood := good_st s.out q
      have p1 := @parS_one M T s q
      have p0 := @parS_zero M T s q
      have p2 := @parS_two M T s q
      have pf := @side_fold s.out q
      generalize hv : stT s.out q = v at *
      obtain ⟨vk, vt⟩ := v
      dsimp only at p1 p0 p2 ano ayes pf
      by_cases hk2 : vk = 2
      · subst hk2
        have d2 : decide ((2 : Int) = 2) = true := rfl
        rw [p2 rfl] at hpa
        repeat' (first | refine walk ?_ | (first | (refine o_ixo ?_) | (apply opsx_val; apply ex_get; (case hm => rfl); (case hn => rfl); (case hk => rfl); (case hT => rfl); (case he => rfl); (case hK => rfl); (case hks => rfl); (case hz => exact zero_thg); (case hzv => exact zero_M); (case hx => exact hget); (case hN => exact nle rfl)) | (apply opsx_store; apply ex_mapUpdate; rfl; rfl; rfl; rfl; rfl; rfl; rfl; rfl)) | ((first | (apply ops_split_t; rfl; rfl; exact nle rfl) | (apply ops_split_f; rfl; rfl; exact nle rfl) | (apply awp_cond; rfl)); all_goals (intro hc; have hp := hc; first | (simp at hp; done) | ((try simp at hp); first | (exfalso; omega) | skip))) | (apply awp_cond_any; rfl))
        all_goals try (exfalso; first | omega | contradiction)
        apply to_call Tryd.func95 rfl rfl
        intro hIsFn3
        cases hasd : asideN M T (putT s.out (⟨q, true, [], 1⟩ : Ent)) q 99 1 with
        | none =>
          rw [asideS_none hasd] at hpa
          have hR : R = none := hpa.symm
          rw [hR]
          refine o_callm [0, 1, 2, 3, 4, 5] [] [(0, .own false 5 [mrow 5 s.cps.length]), (1, .mp (sideM B)), (2, .mp (sideM M)), (3, .mp (sideM T)), (4, .mp (sideM (putT s.out (⟨q, true, [], 1⟩ : Ent)))), (5, .own false 2 (s.cps.map Cpy.row))] 9 (.v (.bool false)) hIsFn3 (ano hasd (by omega)) (by ((repeat' (first | exact argvl_nil | apply argvl_cons | exact argv_pure rfl | exact argv_ex | (apply argv_ren; apply ren_op; exact .inr (of_decide_eq_true rfl)) | (apply argv_ren; apply ren_mp; exact .inr (of_decide_eq_true rfl)) | (apply argv_ren; apply ren_os; exact .inr (of_decide_eq_true rfl)) | apply argv_agg | apply argv_clo))) <;> fail) (by ((repeat' (first | exact give_nil | exact back_nil | refine give_cons _ ?_ ?_ | refine back_cons ?_ ?_ | exact renhb_dead | exact renhb_mp (sideM_pure _) | exact renhb_mp (jk_pure _) | exact renhb_mp (goesM_pure _) | exact renhb_map (fun _ => rfl) | refine renhb_row ?_ | exact renl_nil | apply renl_cons | exact ren_pure rfl | (apply ren_mp; exact .inr (of_decide_eq_true rfl)) | (apply ren_os; exact .inr (of_decide_eq_true rfl)) | (apply ren_op; exact .inr (of_decide_eq_true rfl)) | exact renhb_perm hpt (sideM_pure _)))) <;> fail) (by ((repeat' (first | exact give_nil | exact back_nil | refine give_cons _ ?_ ?_ | refine back_cons ?_ ?_ | exact renhb_dead | exact renhb_mp (sideM_pure _) | exact renhb_mp (jk_pure _) | exact renhb_mp (goesM_pure _) | exact renhb_map (fun _ => rfl) | refine renhb_row ?_ | exact renl_nil | apply renl_cons | exact ren_pure rfl | (apply ren_mp; exact .inr (of_decide_eq_true rfl)) | (apply ren_os; exact .inr (of_decide_eq_true rfl)) | (apply ren_op; exact .inr (of_decide_eq_true rfl)) | fail))) <;> fail) ?_
          repeat' (first | refine walk ?_ | (first | fail) | ((first | (apply ops_split_t; rfl; rfl; exact nle rfl) | (apply ops_split_f; rfl; rfl; exact nle rfl) | (apply awp_cond; rfl)); all_goals (intro hc; have hp := hc; first | (simp at hp; done) | ((try simp at hp); first | (exfalso; omega) | skip))) | (apply awp_cond_any; rfl))
          all_goals try (exfalso; first | omega | contradiction)
          all_goals ((apply fin_ownr (rs := [.tmp 2]) [] 5; (case hr => (repeat (first | exact resok_nil | (apply resok_tmp; rfl) | (apply resok_cell; rfl; rfl; rfl; rfl; rfl)))); (case hL => rfl); (case hh => (repeat' (first | exact hsok_nil | refine q_dead ?_ | refine q_r ?_ | refine q_pm ?_ ?_ ?_ | refine q_sit ?_ ?_ | refine q_row ?_ ?_ | refine q_row3 ?_ ?_ ?_ ?_ | refine q_idx ?_ ?_ | exact renl_nil | apply renl_cons | exact ren_pure rfl | (apply ren_mp; (first | exact maps_low rfl | exact .inr (List.mem_cons_self ..) | exact .inr (List.mem_cons_of_mem _ (List.mem_cons_self ..)) | exact .inr (List.mem_cons_of_mem _ (List.mem_cons_of_mem _ (List.mem_cons_self ..))) | exact .inr (List.mem_cons_of_mem _ (List.mem_cons_of_mem _ (List.mem_cons_of_mem _ (List.mem_cons_self ..)))))) | refine ren_osq ?_ | refine ren_eq ?_ rfl | with_reducible exact List.Perm.refl _)); all_goals (first | rfl | trace_state)); (case hi => exact rfl); (case hz => first | rfl | (simp [pack, AV.ren, AV.ren.renL, lookN, getT, enumT]; done) | (simp [pack, AV.ren, AV.ren.renL, lookN, getT, enumT, *]; done) | trace_state)))
        | some q' =>
          rw [asideS_some hasd] at hpa
          have hro3 : rising entLt (putT (putT s.out (⟨q, true, [], 1⟩ : Ent)) (⟨q', false, vt, 1⟩ : Ent)) = true := putT_rising hro2
          refine o_callm [0, 1, 2, 3, 4, 5] [9] [(0, .own false 5 [mrow 9 (s.cps ++ [(⟨q, q'⟩ : Cpy)]).length]), (1, .mp (sideM B)), (2, .mp (sideM M)), (3, .mp (sideM T)), (4, .mp (sideM (putT (putT s.out (⟨q, true, [], 1⟩ : Ent)) (⟨q', false, vt, 1⟩ : Ent)))), (5, .dead), (9, .own false 2 ((s.cps ++ [(⟨q, q'⟩ : Cpy)]).map Cpy.row))] 10 (.v (.bool true)) hIsFn3 (ayes q' hasd hro2 (by omega)) (by ((repeat' (first | exact argvl_nil | apply argvl_cons | exact argv_pure rfl | exact argv_ex | (apply argv_ren; apply ren_op; exact .inr (of_decide_eq_true rfl)) | (apply argv_ren; apply ren_mp; exact .inr (of_decide_eq_true rfl)) | (apply argv_ren; apply ren_os; exact .inr (of_decide_eq_true rfl)) | apply argv_agg | apply argv_clo))) <;> fail) (by ((repeat' (first | exact give_nil | exact back_nil | refine give_cons _ ?_ ?_ | refine back_cons ?_ ?_ | exact renhb_dead | exact renhb_mp (sideM_pure _) | exact renhb_mp (jk_pure _) | exact renhb_mp (goesM_pure _) | exact renhb_map (fun _ => rfl) | refine renhb_row ?_ | exact renl_nil | apply renl_cons | exact ren_pure rfl | (apply ren_mp; exact .inr (of_decide_eq_true rfl)) | (apply ren_os; exact .inr (of_decide_eq_true rfl)) | (apply ren_op; exact .inr (of_decide_eq_true rfl)) | exact renhb_perm hpt (sideM_pure _)))) <;> fail) (by ((repeat' (first | exact give_nil | exact back_nil | refine give_cons _ ?_ ?_ | refine back_cons ?_ ?_ | exact renhb_dead | exact renhb_mp (sideM_pure _) | exact renhb_mp (jk_pure _) | exact renhb_mp (goesM_pure _) | exact renhb_map (fun _ => rfl) | refine renhb_row ?_ | exact renl_nil | apply renl_cons | exact ren_pure rfl | (apply ren_mp; exact .inr (of_decide_eq_true rfl)) | (apply ren_os; exact .inr (of_decide_eq_true rfl)) | (apply ren_op; exact .inr (of_decide_eq_true rfl)) | fail))) <;> fail) ?_
          repeat' (first | refine walk ?_ | (first | fail) | ((first | (apply ops_split_t; rfl; rfl; exact nle rfl) | (apply ops_split_f; rfl; rfl; exact nle rfl) | (apply awp_cond; rfl)); all_goals (intro hc; have hp := hc; first | (simp at hp; done) | ((try simp at hp); first | (exfalso; omega) | skip))) | (apply awp_cond_any; rfl))
          all_goals try (exfalso; first | omega | contradiction)
          refine ⟨Q.length - (j + 1), ⟨[(0, .op 0 0 0), (88, .os 6 0 K3.length), (89, .v (.int .i64 K3.length)), (90, .v (.int .i64 (i : Int))), (95, .os 7 0 Q.length), (96, .v (.int .i64 Q.length)), (97, .v (.int .i64 ((j + 1 : Nat) : Int)))], [(0, .own false 5 [mrow 5 (s.cps ++ [(⟨q, q'⟩ : Cpy)]).length]), (1, .mp (sideM B)), (2, .mp (sideM M)), (3, .mp (sideM T)), (4, .mp (sideM (putT (putT s.out (⟨q, true, [], 1⟩ : Ent)) (⟨q', false, vt, 1⟩ : Ent)))), (5, .own false 2 ((s.cps ++ [(⟨q, q'⟩ : Cpy)]).map Cpy.row)), (6, .own false 1 (K3.map strAV)), (7, .own false 1 (Q.map strAV))], 8⟩, by omega, ?_, j + 1, ⟨(putT (putT s.out (⟨q, true, [], 1⟩ : Ent)) (⟨q', false, vt, 1⟩ : Ent)), (s.cps ++ [(⟨q, q'⟩ : Cpy)])⟩, by omega, rfl, ⟨hpa, hro3, by simp; omega⟩, rfl⟩; (skip); refine red_ren [(9, 5), (6, 6), (7, 7)] rfl ?gts ?ghs; (case gts => (repeat (first | exact tsok_nil | refine p_pure ?_ | refine p_op ?_ | refine p_osr ?_ | refine p_mp ?_ | refine p_osx ?_ ?_ | refine p_eq ?_ ?_)); all_goals (first | rfl | trace_state)); (case ghs => (repeat' (first | exact hsok_nil | refine q_mrow ?_ | refine q_pm ?_ ?_ ?_ | refine q_r ?_)); all_goals (first | with_reducible exact sideM_pure _ | with_reducible exact List.Perm.refl _ | fail | rfl | trace_state))
      · have d2 : decide (vk = 2) = false := decide_eq_false hk2
        repeat' (first | refine walk ?_ | (first | (refine o_ixo ?_) | (apply opsx_val; apply ex_get; (case hm => rfl); (case hn => rfl); (case hk => rfl); (case hT => rfl); (case he => rfl); (case hK => rfl); (case hks => rfl); (case hz => exact zero_thg); (case hzv => exact zero_M); (case hx => exact hget); (case hN => exact nle rfl)) | (apply opsx_store; apply ex_mapUpdate; rfl; rfl; rfl; rfl; rfl; rfl; rfl; rfl)) | ((first | (apply ops_split_t; rfl; rfl; exact nle rfl) | (apply ops_split_f; rfl; rfl; exact nle rfl) | (apply awp_cond; rfl)); all_goals (intro hc; have hp := hc; first | (simp at hp; done) | ((try simp at hp); first | (exfalso; omega) | skip))) | (apply awp_cond_any; rfl))
        all_goals try (exfalso; first | omega | contradiction)
        by_cases hk1 : vk = 1
        · rw [p1 hk1] at hpa
          have hpf := List.Perm.of_eq (pf hk1)
          refine ⟨Q.length - (j + 1), ⟨[(0, .op 0 0 0), (88, .os 6 0 K3.length), (89, .v (.int .i64 K3.length)), (90, .v (.int .i64 (i : Int))), (95, .os 7 0 Q.length), (96, .v (.int .i64 Q.length)), (97, .v (.int .i64 ((j + 1 : Nat) : Int)))], [(0, .own false 5 [mrow 5 s.cps.length]), (1, .mp (sideM B)), (2, .mp (sideM M)), (3, .mp (sideM T)), (4, .mp (sideM s.out)), (5, .own false 2 (s.cps.map Cpy.row)), (6, .own false 1 (K3.map strAV)), (7, .own false 1 (Q.map strAV))], 8⟩, by omega, ?_, j + 1, s, by omega, rfl, ⟨hpa, hri, by omega⟩, rfl⟩; (skip); refine red_ren [(5, 5), (6, 6), (7, 7)] rfl ?gts ?ghs; (case gts => (repeat (first | exact tsok_nil | refine p_pure ?_ | refine p_op ?_ | refine p_osr ?_ | refine p_mp ?_ | refine p_osx ?_ ?_ | refine p_eq ?_ ?_)); all_goals (first | rfl | trace_state)); (case ghs => (repeat' (first | exact hsok_nil | refine q_mrow ?_ | refine q_pm ?_ ?_ ?_ | refine q_r ?_)); all_goals (first | with_reducible exact sideM_pure _ | with_reducible exact List.Perm.refl _ | exact hpf | exact hpf.symm | rfl | trace_state))
        · rw [p0 hk1 hk2] at hpa
          refine ⟨Q.length - (j + 1), ⟨[(0, .op 0 0 0), (88, .os 6 0 K3.length), (89, .v (.int .i64 K3.length)), (90, .v (.int .i64 (i : Int))), (95, .os 7 0 Q.length), (96, .v (.int .i64 Q.length)), (97, .v (.int .i64 ((j + 1 : Nat) : Int)))], [(0, .own false 5 [mrow 5 s.cps.length]), (1, .mp (sideM B)), (2, .mp (sideM M)), (3, .mp (sideM T)), (4, .mp (sideM (putT s.out (⟨q, true, [], 1⟩ : Ent)))), (5, .own false 2 (s.cps.map Cpy.row)), (6, .own false 1 (K3.map strAV)), (7, .own false 1 (Q.map strAV))], 8⟩, by omega, ?_, j + 1, ⟨(putT s.out (⟨q, true, [], 1⟩ : Ent)), s.cps⟩, by omega, rfl, ⟨hpa, hro2, by simp only; omega⟩, rfl⟩; (skip); refine red_ren [(5, 5), (6, 6), (7, 7)] rfl ?gts ?ghs; (case gts => (repeat (first | exact tsok_nil | refine p_pure ?_ | refine p_op ?_ | refine p_osr ?_ | refine p_mp ?_ | refine p_osx ?_ ?_ | refine p_eq ?_ ?_)); all_goals (first | rfl | trace_state)); (case ghs => (repeat' (first | exact hsok_nil | refine q_mrow ?_ | refine q_pm ?_ ?_ ?_ | refine q_r ?_)); all_goals (first | with_reducible exact sideM_pure _ | with_reducible exact List.Perm.refl _ | exact hpt | exact hpt.symm | rfl | trace_state))
    · obtain rfl : j = Q.length := by omega
      rw [List.drop_length, List.nil_append, ← hRest] at hpa
      repeat' (first | refine walk ?_ | (first | fail) | ((first | (apply ops_split_t; rfl; rfl; exact nle rfl) | (apply ops_split_f; rfl; rfl; exact nle rfl) | (apply awp_cond; rfl)); all_goals (intro hc; have hp := hc; first | (simp at hp; done) | ((try simp at hp); first | (exfalso; omega) | skip))) | (apply awp_cond_any; rfl))
      all_goals try (exfalso; first | omega | contradiction)
      refine ⟨K3.length - (i + 1), ⟨[(0, .op 0 0 0), (88, .os 6 0 K3.length), (89, .v (.int .i64 K3.length)), (90, .v (.int .i64 ((i + 1 : Nat) : Int)))], [(0, .own false 5 [mrow 5 s.cps.length]), (1, .mp (sideM B)), (2, .mp (sideM M)), (3, .mp (sideM T)), (4, .mp (sideM s.out)), (5, .own false 2 (s.cps.map Cpy.row)), (6, .own false 1 (K3.map strAV))], 7⟩, by omega, ?_, i + 1, s, by omega, rfl, ⟨hpa, hri, by omega⟩, rfl⟩; (skip); refine red_ren [(5, 5), (6, 6)] rfl ?gts ?ghs; (case gts => (repeat (first | exact tsok_nil | refine p_pure ?_ | refine p_op ?_ | refine p_osr ?_ | refine p_mp ?_ | refine p_osx ?_ ?_ | refine p_eq ?_ ?_)); all_goals (first | rfl | trace_state)); (case ghs => (repeat' (first | exact hsok_nil | refine q_mrow ?_ | refine q_pm ?_ ?_ ?_ | refine q_r ?_)); all_goals (first | with_reducible exact sideM_pure _ | with_reducible exact List.Perm.refl _ | rfl | trace_state))
  · obtain rfl : i = K3.length := by omega
    rw [List.drop_length] at hpa
    have hR2 : R = some s := hpa.symm
    rw [hR2]
    repeat' (first | refine walk ?_ | (first | fail) | ((first | (apply ops_split_t; rfl; rfl; exact nle rfl) | (apply ops_split_f; rfl; rfl; exact nle rfl) | (apply awp_cond; rfl)); all_goals (intro hc; have hp := hc; first | (simp at hp; done) | ((try simp at hp); first | (exfalso; omega) | skip))) | (apply awp_cond_any; rfl))
    all_goals try (exfalso; first | omega | contradiction)
    (apply fin_ownr (rs := [.tmp 2]) [(5, 5)] 6; (case hr => (repeat (first | exact resok_nil | (apply resok_tmp; rfl) | (apply resok_cell; rfl; rfl; rfl; rfl; rfl)))); (case hL => rfl); (case hh => (repeat' (first | exact hsok_nil | refine q_mrow ?_ | refine q_pm ?_ ?_ ?_ | refine q_r ?_)); all_goals (first | with_reducible exact sideM_pure _ | with_reducible exact List.Perm.refl _ | rfl)); (case hi => exact rfl); (case hz => rfl))
end Go.Proofs.YtkkfilkmkdnboaaDoor

/- Merges in the abstract layer, 8: merge: what goes aside. -/
set_option linter.unusedSimpArgs false
set_option linter.unnecessarySimpa false
set_option linter.unusedVariables false
set_option maxHeartbeats 1000000
namespace Go.Proofs.YtkkfilkmkdnboaaDoor
open Go.Ab Go.RowKit
set_option maxRecDepth 10000
attribute [local irreducible] Awp Ops OpsX Wanted Red ExOk Go.Ab.Fin ACall Rz RzL RzRows Enters ResOk RenV RenVL ArgV ArgVL
set_option maxHeartbeats 16000000 in
theorem m_merge_b (B M T : List Ent) (G : List (Str × Str)) (O0 : List Ent) (R : Option MS) (iO : MInv O0) (lO : O0.length ≤ 180) (rG : risS (G.map (·.1))) (lG : G.length ≤ 180) (gG : ∀ g, g ∈ G → pathErr g.1 = 0 ∧ g.2.length ≤ 300) (hms : (match goS M T G ⟨O0, []⟩ with | none => none | some s => parsS M T ((s.out.map Ent.path).flatMap parsOf) s) = R) :
    Awp C5 125 (tl 5 mergeCode) (finQ C5 #[ResultVar.tmp 2] 5 (.v (.bool R.isSome)) (H8o B M T R)) ⟨[(0, .op 0 0 0), (6, .mp 6)], [(0, .own false 5 [mrow 5 0]), (1, .mp (sideM B)), (2, .mp (sideM M)), (3, .mp (sideM T)), (4, .mp (sideM O0)), (5, .own false 2 []), (6, .mp (goesM G))], 7⟩ := by
  conv => arg 3; whnf
  have ap2 := a_paths (goesM G) (G.map (·.1)) rG (by rw [goesM_keys]) (by rw [List.length_map]; omega) (fun x hx => by
    obtain ⟨g, hg, rfl⟩ := List.mem_map.1 hx
    exact Nat.le_trans (pathErr_small (gG g hg).1) (by decide))
  generalize hK : G.map (·.1) = K at *
  have lK : K.length = G.length := by rw [← hK, List.length_map]
  repeat' (first | refine walk ?_ | (first | fail) | ((first | (apply ops_split_t; rfl; rfl; exact nle rfl) | (apply ops_split_f; rfl; rfl; exact nle rfl) | (apply awp_cond; rfl)); all_goals (intro hc; have hp := hc; first | (simp at hp; done) | ((try simp at hp); first | (exfalso; omega) | skip))) | (apply awp_cond_any; rfl))
  all_goals try (exfalso; omega)
  apply to_call Tryd.func72 rfl rfl
  intro hIsFn
  refine o_callm [6] [7] [(6, .mp (goesM G)), (7, .own false 1 (K.map strAV))] 8 (.os 7 0 K.length) hIsFn (ap2) (by ((repeat' (first | exact argvl_nil | apply argvl_cons | exact argv_pure rfl | exact argv_ex | (apply argv_ren; apply ren_op; exact .inr (of_decide_eq_true rfl)) | (apply argv_ren; apply ren_mp; exact .inr (of_decide_eq_true rfl)) | (apply argv_ren; apply ren_os; exact .inr (of_decide_eq_true rfl)) | apply argv_agg | apply argv_clo))) <;> fail) (by ((repeat' (first | exact give_nil | exact back_nil | refine give_cons _ ?_ ?_ | refine back_cons ?_ ?_ | exact renhb_dead | exact renhb_mp (sideM_pure _) | exact renhb_mp (jk_pure _) | exact renhb_mp (goesM_pure _) | exact renhb_map (fun _ => rfl) | refine renhb_row ?_ | exact renl_nil | apply renl_cons | exact ren_pure rfl | (apply ren_mp; exact .inr (of_decide_eq_true rfl)) | (apply ren_os; exact .inr (of_decide_eq_true rfl)) | (apply ren_op; exact .inr (of_decide_eq_true rfl)) | fail))) <;> fail) (by ((repeat' (first | exact give_nil | exact back_nil | refine give_cons _ ?_ ?_ | refine back_cons ?_ ?_ | exact renhb_dead | exact renhb_mp (sideM_pure _) | exact renhb_mp (jk_pure _) | exact renhb_mp (goesM_pure _) | exact renhb_map (fun _ => rfl) | refine renhb_row ?_ | exact renl_nil | apply renl_cons | exact ren_pure rfl | (apply ren_mp; exact .inr (of_decide_eq_true rfl)) | (apply ren_os; exact .inr (of_decide_eq_true rfl)) | (apply ren_op; exact .inr (of_decide_eq_true rfl)) | fail))) <;> fail) ?_
  repeat' (first | refine walk ?_ | (first | fail) | ((first | (apply ops_split_t; rfl; rfl; exact nle rfl) | (apply ops_split_f; rfl; rfl; exact nle rfl) | (apply awp_cond; rfl)); all_goals (intro hc; have hp := hc; first | (simp at hp; done) | ((try simp at hp); first | (exfalso; omega) | skip))) | (apply awp_cond_any; rfl))
  all_goals try (exfalso; omega)
  clear ap2
  (refine Awp.red (red_ren (τ := ⟨[(0, .op 0 0 0), (6, .mp 6), (70, .os 7 0 K.length), (71, .v (.int .i64 K.length)), (72, .v (.int .i64 ((0 : Nat) : Int)))], [(0, .own false 5 [mrow 5 0]), (1, .mp (sideM B)), (2, .mp (sideM M)), (3, .mp (sideM T)), (4, .mp (sideM O0)), (5, .own false 2 []), (6, .mp (goesM G)), (7, .own false 1 (K.map strAV))], 8⟩) [(5, 5), (6, 6), (7, 7)] rfl ?gts2 ?ghs2) ?_; (case gts2 => (repeat (first | exact tsok_nil | refine p_pure ?_ | refine p_op ?_ | refine p_osr ?_ | refine p_mp ?_ | refine p_osx ?_ ?_ | refine p_eq ?_ ?_)); all_goals (first | rfl | (rw [List.length_map]; done) | trace_state)); (case ghs2 => (repeat' (first | exact hsok_nil | refine q_mrow ?_ | refine q_pm ?_ ?_ ?_ | refine q_r ?_)); all_goals (first | with_reducible exact sideM_pure _ | with_reducible exact goesM_pure _ | with_reducible exact List.Perm.refl _ | rfl | trace_state)))
  refine awp_loop (fun n σ => ∃ (i : Nat) (s : MS), i ≤ K.length ∧ n = K.length - i ∧ (goS M T (G.drop i) s = goS M T G ⟨O0, []⟩ ∧ rising entLt s.out = true ∧ s.cps.length ≤ i) ∧ σ = ⟨[(0, .op 0 0 0), (6, .mp 6), (70, .os 7 0 K.length), (71, .v (.int .i64 K.length)), (72, .v (.int .i64 (i : Int)))], [(0, .own false 5 [mrow 5 s.cps.length]), (1, .mp (sideM B)), (2, .mp (sideM M)), (3, .mp (sideM T)), (4, .mp (sideM s.out)), (5, .own false 2 (s.cps.map Cpy.row)), (6, .mp (goesM G)), (7, .own false 1 (K.map strAV))], 8⟩) K.length ⟨0, ⟨O0, []⟩, by omega, rfl, ⟨rfl, iO.rise, Nat.le_refl _⟩, rfl⟩ ?_
  rintro n σ ⟨i, s, hi, rfl, ⟨hgo, hri, hcl⟩, rfl⟩
  by_cases hlt : i < K.length
  · have hG : i < G.length := by omega
    have hrow : (K.map strAV)[i]? = some (strAV G[i].1) := by rw [List.getElem?_map, ← hK, List.getElem?_map, List.getElem?_eq_getElem hG]; rfl
    have hget := goesM_get (by rw [hK]; exact risS_nodup rG) (List.getElem_mem hG)
    have hdr := goS_drop (m := M) (t := T) hG s
    have hpe := (gG G[i] (List.getElem_mem hG)).1
    have hEx : G[i] = (G[i].1, G[i].2) := rfl
    generalize G[i].1 = p at *
    generalize G[i].2 = x at *
    have ano := m_aside_no B M T s.out s.cps p x hpe
    have ayes := fun q => m_aside_yes B M T s.out s.cps p x q hpe
    repeat' (first | refine walk ?_ | (first | (refine o_ixo ?_) | (apply opsx_val; apply ex_get; (case hm => rfl); (case hn => rfl); (case hk => rfl); (case hT => rfl); (case he => rfl); (case hK => rfl); (case hks => rfl); (case hz => exact zero_thg); (case hzv => exact zero_M); (case hx => exact hget); (case hN => exact nle rfl))) | ((first | (apply ops_split_t; rfl; rfl; exact nle rfl) | (apply ops_split_f; rfl; rfl; exact nle rfl) | (apply awp_cond; rfl)); all_goals (intro hc; have hp := hc; first | (simp at hp; done) | ((try simp at hp); first | (exfalso; omega) | skip))) | (apply awp_cond_any; rfl))
    all_goals try (exfalso; first | omega | contradiction)
    apply to_call Tryd.func95 rfl rfl
    intro hIsFn2
    cases hasd : asideN M T s.out p 99 1 with
    | none =>
      refine o_callm [0, 1, 2, 3, 4, 5] [] [(0, .own false 5 [mrow 5 s.cps.length]), (1, .mp (sideM B)), (2, .mp (sideM M)), (3, .mp (sideM T)), (4, .mp (sideM s.out)), (5, .own false 2 (s.cps.map Cpy.row))] 8 (.v (.bool false)) hIsFn2 (ano hasd (by omega)) (by ((repeat' (first | exact argvl_nil | apply argvl_cons | exact argv_pure rfl | exact argv_ex | (apply argv_ren; apply ren_op; exact .inr (of_decide_eq_true rfl)) | (apply argv_ren; apply ren_mp; exact .inr (of_decide_eq_true rfl)) | (apply argv_ren; apply ren_os; exact .inr (of_decide_eq_true rfl)) | apply argv_agg | apply argv_clo))) <;> fail) (by ((repeat' (first | exact give_nil | exact back_nil | refine give_cons _ ?_ ?_ | refine back_cons ?_ ?_ | exact renhb_dead | exact renhb_mp (sideM_pure _) | exact renhb_mp (jk_pure _) | exact renhb_mp (goesM_pure _) | exact renhb_map (fun _ => rfl) | refine renhb_row ?_ | exact renl_nil | apply renl_cons | exact ren_pure rfl | (apply ren_mp; exact .inr (of_decide_eq_true rfl)) | (apply ren_os; exact .inr (of_decide_eq_true rfl)) | (apply ren_op; exact .inr (of_decide_eq_true rfl)) | fail))) <;> fail) (by ((repeat' (first | exact give_nil | exact back_nil | refine give_cons _ ?_ ?_ | refine back_cons ?_ ?_ | exact renhb_dead | exact renhb_mp (sideM_pure _) | exact renhb_mp (jk_pure _) | exact renhb_mp (goesM_pure _) | exact renhb_map (fun _ => rfl) | refine renhb_row ?_ | exact renl_nil | apply renl_cons | exact ren_pure rfl | (apply ren_mp; exact .inr (of_decide_eq_true rfl)) | (apply ren_os; exact .inr (of_decide_eq_true rfl)) | (apply ren_op; exact .inr (of_decide_eq_true rfl)) | fail))) <;> fail) ?_
      have hno : R = none := by
        rw [← hms, ← hgo, hdr, asideS_none hasd]
      rw [hno]
      repeat' (first | refine walk ?_ | (first | fail) | ((first | (apply ops_split_t; rfl; rfl; exact nle rfl) | (apply ops_split_f; rfl; rfl; exact nle rfl) | (apply awp_cond; rfl)); all_goals (intro hc; have hp := hc; first | (simp at hp; done) | ((try simp at hp); first | (exfalso; omega) | skip))) | (apply awp_cond_any; rfl))
      all_goals try (exfalso; first | omega | contradiction)
      all_goals ((apply fin_ownr (rs := [.tmp 2]) [] 5; (case hr => (repeat (first | exact resok_nil | (apply resok_tmp; rfl) | (apply resok_cell; rfl; rfl; rfl; rfl; rfl)))); (case hL => rfl); (case hh => (repeat' (first | exact hsok_nil | refine q_dead ?_ | refine q_r ?_ | refine q_pm ?_ ?_ ?_ | refine q_sit ?_ ?_ | refine q_row ?_ ?_ | refine q_row3 ?_ ?_ ?_ ?_ | refine q_idx ?_ ?_ | exact renl_nil | apply renl_cons | exact ren_pure rfl | (apply ren_mp; (first | exact maps_low rfl | exact .inr (List.mem_cons_self ..) | exact .inr (List.mem_cons_of_mem _ (List.mem_cons_self ..)) | exact .inr (List.mem_cons_of_mem _ (List.mem_cons_of_mem _ (List.mem_cons_self ..))) | exact .inr (List.mem_cons_of_mem _ (List.mem_cons_of_mem _ (List.mem_cons_of_mem _ (List.mem_cons_self ..)))))) | refine ren_osq ?_ | refine ren_eq ?_ rfl | with_reducible exact List.Perm.refl _)); all_goals (first | rfl | trace_state)); (case hi => exact rfl); (case hz => first | rfl | (simp [pack, AV.ren, AV.ren.renL, lookN, getT, enumT]; done) | (simp [pack, AV.ren, AV.ren.renL, lookN, getT, enumT, *]; done) | trace_state)))
    | some q =>
      rw [asideS_some hasd] at hdr
      have hro2 : rising entLt (putT s.out (⟨q, false, x, 1⟩ : Ent)) = true := putT_rising hri
      refine o_callm [0, 1, 2, 3, 4, 5] [8] [(0, .own false 5 [mrow 8 (s.cps ++ [(⟨p, q⟩ : Cpy)]).length]), (1, .mp (sideM B)), (2, .mp (sideM M)), (3, .mp (sideM T)), (4, .mp (sideM (putT s.out (⟨q, false, x, 1⟩ : Ent)))), (5, .dead), (8, .own false 2 ((s.cps ++ [(⟨p, q⟩ : Cpy)]).map Cpy.row))] 9 (.v (.bool true)) hIsFn2 (ayes q hasd hri (by omega)) (by ((repeat' (first | exact argvl_nil | apply argvl_cons | exact argv_pure rfl | exact argv_ex | (apply argv_ren; apply ren_op; exact .inr (of_decide_eq_true rfl)) | (apply argv_ren; apply ren_mp; exact .inr (of_decide_eq_true rfl)) | (apply argv_ren; apply ren_os; exact .inr (of_decide_eq_true rfl)) | apply argv_agg | apply argv_clo))) <;> fail) (by ((repeat' (first | exact give_nil | exact back_nil | refine give_cons _ ?_ ?_ | refine back_cons ?_ ?_ | exact renhb_dead | exact renhb_mp (sideM_pure _) | exact renhb_mp (jk_pure _) | exact renhb_mp (goesM_pure _) | exact renhb_map (fun _ => rfl) | refine renhb_row ?_ | exact renl_nil | apply renl_cons | exact ren_pure rfl | (apply ren_mp; exact .inr (of_decide_eq_true rfl)) | (apply ren_os; exact .inr (of_decide_eq_true rfl)) | (apply ren_op; exact .inr (of_decide_eq_true rfl)) | fail))) <;> fail) (by ((repeat' (first | exact give_nil | exact back_nil | refine give_cons _ ?_ ?_ | refine back_cons ?_ ?_ | exact renhb_dead | exact renhb_mp (sideM_pure _) | exact renhb_mp (jk_pure _) | exact renhb_mp (goesM_pure _) | exact renhb_map (fun _ => rfl) | refine renhb_row ?_ | exact renl_nil | apply renl_cons | exact ren_pure rfl | (apply ren_mp; exact .inr (of_decide_eq_true rfl)) | (apply ren_os; exact .inr (of_decide_eq_true rfl)) | (apply ren_op; exact .inr (of_decide_eq_true rfl)) | fail))) <;> fail) ?_
      repeat' (first | refine walk ?_ | (first | fail) | ((first | (apply ops_split_t; rfl; rfl; exact nle rfl) | (apply ops_split_f; rfl; rfl; exact nle rfl) | (apply awp_cond; rfl)); all_goals (intro hc; have hp := hc; first | (simp at hp; done) | ((try simp at hp); first | (exfalso; omega) | skip))) | (apply awp_cond_any; rfl))
      all_goals try (exfalso; first | omega | contradiction)
      refine ⟨K.length - (i + 1), ⟨[(0, .op 0 0 0), (6, .mp 6), (70, .os 7 0 K.length), (71, .v (.int .i64 K.length)), (72, .v (.int .i64 ((i + 1 : Nat) : Int)))], [(0, .own false 5 [mrow 5 (s.cps ++ [(⟨p, q⟩ : Cpy)]).length]), (1, .mp (sideM B)), (2, .mp (sideM M)), (3, .mp (sideM T)), (4, .mp (sideM (putT s.out (⟨q, false, x, 1⟩ : Ent)))), (5, .own false 2 ((s.cps ++ [(⟨p, q⟩ : Cpy)]).map Cpy.row)), (6, .mp (goesM G)), (7, .own false 1 (K.map strAV))], 8⟩, by omega, ?_, i + 1, ⟨putT s.out (⟨q, false, x, 1⟩ : Ent), s.cps ++ [⟨p, q⟩]⟩, by omega, rfl, ⟨hdr.symm.trans hgo, hro2, by simp; omega⟩, rfl⟩; (skip); refine red_ren [(8, 5), (6, 6), (7, 7)] rfl ?gts ?ghs; (case gts => (repeat (first | exact tsok_nil | refine p_pure ?_ | refine p_op ?_ | refine p_osr ?_ | refine p_mp ?_ | refine p_osx ?_ ?_ | refine p_eq ?_ ?_)); all_goals (first | rfl | trace_state)); (case ghs => (repeat' (first | exact hsok_nil | refine q_mrow ?_ | refine q_pm ?_ ?_ ?_ | refine q_r ?_)); all_goals (first | with_reducible exact sideM_pure _ | with_reducible exact goesM_pure _ | with_reducible exact List.Perm.refl _ | rfl | trace_state))
  · obtain rfl : i = K.length := by omega
    rw [List.drop_eq_nil_of_le (by omega)] at hgo
    have hgo2 : goS M T G ⟨O0, []⟩ = some s := hgo.symm
    have iS : MInv s.out := goS_inv (s := ⟨O0, []⟩) iO gG hgo2
    have lS : s.out.length ≤ 360 := by have := goS_len hgo2; simp at this; omega
    rw [hgo2] at hms
    have hcl0 : s.cps.length ≤ 180 := by omega
    repeat' (first | (refine Awp.red (red_ren (τ := ⟨[(0, .op 0 0 0)], [(0, .own false 5 [mrow 5 s.cps.length]), (1, .mp (sideM B)), (2, .mp (sideM M)), (3, .mp (sideM T)), (4, .mp (sideM s.out)), (5, .own false 2 (s.cps.map Cpy.row))], 6⟩) [(5, 5)] rfl ?_ ?_) ?_; rotate_left 2; exact m_merge_c B M T s iS lS hcl0 R hms; (focus ((repeat (first | exact tsok_nil | refine p_pure ?_ | refine p_op ?_ | refine p_osr ?_ | refine p_mp ?_ | refine p_osx ?_ ?_ | refine p_eq ?_ ?_)); all_goals trace_state)); (focus ((repeat' (first | exact hsok_nil | refine q_mrow ?_ | refine q_pm ?_ ?_ ?_ | refine q_r ?_)); all_goals (first | with_reducible exact sideM_pure _ | with_reducible exact goesM_pure _ | with_reducible exact jk_pure _ | with_reducible exact List.Perm.refl _ | rfl | trace_state)))) | refine walk1 ?_ | ((first | (apply ops_split_t; rfl; rfl; exact nle rfl) | (apply ops_split_f; rfl; rfl; exact nle rfl) | (apply awp_cond; rfl)); all_goals (intro hc; have hp := hc; first | (simp at hp; done) | ((try simp at hp); first | (exfalso; omega) | skip))) | (apply awp_cond_any; rfl))
end Go.Proofs.YtkkfilkmkdnboaaDoor
