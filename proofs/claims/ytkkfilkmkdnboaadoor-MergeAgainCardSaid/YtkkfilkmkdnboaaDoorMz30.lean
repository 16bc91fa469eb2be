import Derived.Test.YtkkfilkmkdnboaaDoorMz27
import Derived.Test.YtkkfilkmkdnboaaDoorMz28
import Derived.Test.YtkkfilkmkdnboaaDoorMz29
import Derived.Shelf.AbstractIn
/- Merges in the abstract layer, 2: the keys of a side, sorted; parents of a path. -/
set_option linter.unusedSimpArgs false
set_option linter.unnecessarySimpa false
set_option linter.unusedVariables false
namespace Go.Proofs
open Go.RowKit Go.Maps Go.Sort Go.Shelf
theorem Tryd.sortsT (m : Nat) : AnyZ.SortsIn Tryd.prog Tryd.sortedT_ren Fence.wide m :=
  ⟨fun blk off cap ss W hH hblk hsz => callsIn_wide.2 (AnyM.slices_Sort_string Tryd.sortT blk off cap ss W hH hblk hsz),
   fun p cap W => callsIn_wide.2 (AnyM.slices_Sort_string_none Tryd.sortT p cap W)⟩
set_option maxHeartbeats 1000000 in
theorem Tryd.paths_raw {H : Type} (b nn : Nat) (D0 : DataW H) (R : Value → Option (DataW H × List MemPlace)) (w : World) (hown : w.ownsMap Tryd.prog 9 R b nn D0) (hmax : Maps.size D0 ≤ maxLen) (hbytes : Maps.size D0 * 16 ≤ 140737488355328) :
    Calls Tryd.prog 72 #[.map (some b)] w fun e w' => ∃ (v : Value) (ss : List (List UInt8)), e = .returned v ∧ ss.Perm (strKeys D0) ∧
      w'.ownsRow w.heap.size 9 1 v ss.length ((ss.mergeSort (fun x y => decide (x ≤ y))).map encStr) ∧ (v = .slice none 0 0 ↔ ss = []) ∧ Below w.heap.size w w' := by
  refine (callsIn_wide (n := 6)).1 ?_
  have hbl := hown.lt
  have hseq : SeqGives Fence.wide 2 Tryd.prog 126 #[.pointer (some ⟨w.heap.size, 0, none⟩)] encStr (fun ss => ss.Perm (strKeys D0)) (Maps.size D0) (w.alloc (.cells #[.map (some b)] 104)) :=
    AnyZ.keys_gives (ρ := Tryd.keysT_ren) { Tryd.keysT with } Fence.wide _ trivial rfl (by omega) w.heap.size b nn D0 _ (by simp) (by simp) (by
      obtain ⟨es, clock, hb, Ft, hs, hD⟩ := hown
      exact ⟨es, clock, (Below.heap_alloc _ _ b hbl).trans hb, Ft, hs, hD⟩)
  have cK : ∀ mb W, CallsIn Fence.wide 5 Tryd.prog 98 #[.map mb] W fun e w' => e = .returned (.func (.func 126) #[] #[.pointer (some ⟨W.heap.size, 0, none⟩)]) ∧ w' = W.alloc (.cells #[.map mb] 104) := fun mb W => AnyZ.keys_in Tryd.keysT Fence.wide 5 trivial rfl mb W
  have cS := AnyZ.sorted_in Tryd.sortedT Fence.wide 5 trivial trivial trivial trivial rfl (by omega) (Tryd.sortsT _) (enters_of Tryd.func62 (by kernel_rfl) rfl) 126 #[.pointer (some ⟨w.heap.size, 0, none⟩)] trivial (enters_of Tryd.func126 (by kernel_rfl) rfl) _ _ hmax hbytes _ hseq
  change CallsIn _ _ Tryd.prog 97 _ _ _ at cS
  have hfK : Fence.wide.fn 98 := trivial
  have hfS : Fence.wide.fn 97 := trivial
  refine callsIn_of_wp Tryd.func72 rfl trivial ?_ rfl
  simp only [Tryd.ntmps72, List.size_toArray, List.length_cons, List.length_nil, Nat.reduceAdd, Nat.reduceSub, Array.replicate_succ, Array.replicate_zero, List.push_toArray, List.append_toArray, List.nil_append, List.cons_append]
  gi_wp2_with (first
    | (gi_at_call 98; refine (cK _ _).mono ?_; rintro e w' ⟨rfl, rfl⟩)
    | (gi_at_call 97; refine cS.mono ?_; rintro e w' ⟨v, ss, rfl, hS, hrow, hnil, hb⟩))
  go_ret
  exact ⟨v, ss, rfl, hS, ownsRow_base_a hrow (by simp), hnil, ((Below.refl _ w).alloc (Nat.le_refl _) _).trans (hb.mono (by simp))⟩
end Go.Proofs
namespace Go.Proofs.YtkkfilkmkdnboaaDoor
open Go.Ab Go.RowKit
set_option maxRecDepth 10000
attribute [local irreducible] Awp Ops OpsX Wanted Red ExOk Go.Ab.Fin ACall Rz RzL RzRows Enters ResOk RenV RenVL ArgV ArgVL

theorem le_bytes : ∀ {a b : List UInt8}, (a ≤ b) ↔ ¬ Op.bytesLess b a = true := by
  have key : ∀ (a b : List UInt8), Op.bytesLess a b = true ↔ a < b := by
    intro a
    induction a with
    | nil => intro b; cases b <;> simp [Op.bytesLess]
    | cons x a ih =>
      intro b
      cases b with
      | nil => simp [Op.bytesLess]
      | cons y b =>
        simp only [Op.bytesLess, Bool.or_eq_true, Bool.and_eq_true, decide_eq_true_eq, beq_iff_eq, List.cons_lt_cons_iff, ih]
  intro a b
  rw [key, List.not_lt]
/-- The keys of a side, sorted, are the paths in their order. -/
theorem sorted_ris {l : List Str} (hn : l.Nodup) : risS (l.mergeSort leB) := by
  have h1 := List.pairwise_mergeSort (le := leB) (fun a b c hab hbc => by
    simp only [decide_eq_true_eq, le_bytes] at *
    intro h
    rcases bl_tri b c with h2 | h2 | h2
    · exact hab (bl_trans h2.1 h)
    · rw [h2.1] at hab; exact hab h
    · exact hbc h2.1) (fun a b => by
    simp only [Bool.or_eq_true, decide_eq_true_eq, le_bytes]
    rcases bl_tri a b with h2 | h2 | h2
    · exact .inl (by simp [h2.2.1])
    · exact .inl (by simp [h2.2.2])
    · exact .inr (by simp [h2.2.1])) l
  have h2 := (List.mergeSort_perm l leB).nodup_iff.2 hn
  refine (h1.and h2).imp fun {a b} ⟨h3, h4⟩ => ?_
  simp only [decide_eq_true_eq, le_bytes] at h3
  rcases bl_tri a b with h5 | h5 | h5
  · exact h5.1
  · exact absurd h5.1 h4
  · exact absurd h5.1 h3
theorem sorted_is {l s : List Str} (hn : l.Nodup) (hs : risS s) (hm : ∀ x, x ∈ l ↔ x ∈ s) : l.mergeSort leB = s :=
  risS_ext (sorted_ris hn) hs fun x => by rw [(List.mergeSort_perm l leB).mem_iff, hm]
theorem risS_nodup {s : List Str} (h : risS s) : s.Nodup := h.imp fun {a b} hab e => by rw [e, bl_irr] at hab; cases hab
theorem ris_paths {t : List Ent} (h : rising entLt t = true) : risS (t.map Ent.path) := by
  unfold risS; rw [List.pairwise_map]; exact rising_pairE.1 h
theorem a_paths (l : List (List UInt8 × AV)) (s : List Str) (hs : risS s) (hp : (l.map (·.1)).Perm s) (hl : s.length ≤ 1000000) (hk : ∀ x, x ∈ s → x.length ≤ 1000000) :
    ACall C1.P 72 [.mp 0] [.mp l] (.os 1 0 s.length) [.mp l, .own false 1 (s.map strAV)] := by
  have hlen : l.length = s.length := by rw [← hp.length_eq, List.length_map]
  have h := acall_keys (P := C1.P) (f := 72) (k := 9) Tryd.underlying9 (l := l) (by omega) (fun x hx => hk x.1 (hp.mem_iff.1 (List.mem_map.2 ⟨x, hx, rfl⟩))) (fun b nn D0 w h1 h2 h3 => Tryd.paths_raw b nn D0 heldR w h1 h2 h3)
  rw [sorted_is (hp.nodup_iff.2 (risS_nodup hs)) hs (fun x => hp.mem_iff), hlen] at h
  exact h
end Go.Proofs.YtkkfilkmkdnboaaDoor

/- Merges in the abstract layer, 3: parents of a path; one path; aside. -/
set_option linter.unusedSimpArgs false
set_option linter.unnecessarySimpa false
set_option linter.unusedVariables false
set_option maxHeartbeats 1000000
namespace Go.Proofs.YtkkfilkmkdnboaaDoor
open Go.Ab Go.RowKit
set_option maxRecDepth 10000
attribute [local irreducible] Awp Ops OpsX Wanted Red ExOk Go.Ab.Fin ACall Rz RzL RzRows Enters ResOk RenV RenVL ArgV ArgVL

theorem parsOf_slash (s : Str) : parsOf (s ++ [47]) = parsOf s ++ [s] := by
  have h1 := namesOf_slash s
  have hp := List.length_pos_iff.2 (namesOf_ne s)
  apply List.ext_getElem
  · rw [parsOf_len, List.length_append, parsOf_len, h1, List.length_append]; simp; omega
  · intro i h2 h3
    rw [parsOf_get h2]
    rw [parsOf_len, h1, List.length_append] at h2
    simp only [List.length_cons, List.length_nil] at h2
    rw [h1, List.take_append_of_le_length (by omega)]
    rw [List.getElem_append]
    split
    · rename_i h4
      rw [parsOf_get h4]
    · rename_i h4
      rw [parsOf_len] at h4
      have : i + 1 = (namesOf s).length := by omega
      rw [this, List.take_length, path_names]
      simp
theorem parsOf_other {c : UInt8} (h : ¬ c = 47) (s : Str) : parsOf (s ++ [c]) = parsOf s := by
  have h1 := namesOf_snoc h s
  have hp := List.length_pos_iff.2 (namesOf_ne s)
  have hl : (namesOf (s ++ [c])).length = (namesOf s).length := by rw [h1, List.length_append, List.length_dropLast]; simp; omega
  apply List.ext_getElem
  · rw [parsOf_len, parsOf_len, hl]
  · intro i h2 h3
    rw [parsOf_get h2, parsOf_get h3]
    rw [parsOf_len] at h3
    rw [h1, List.take_append_of_le_length (by rw [List.length_dropLast]; omega), List.dropLast_eq_take, List.take_take, Nat.min_eq_left (by omega)]
theorem parsOf_step {p : Str} {i : Nat} (h : i < p.length) : parsOf (p.take (i + 1)) = if p[i] = 47 then parsOf (p.take i) ++ [p.take i] else parsOf (p.take i) := by
  rw [List.take_succ_eq_append_getElem h]
  split
  · rename_i e; rw [e, parsOf_slash]
  · rename_i e; rw [parsOf_other e]
theorem parsOf_nil : parsOf [] = [] := rfl
theorem parsOf_few (p : Str) : (parsOf p).length ≤ p.length := by
  rw [parsOf_len, namesOf_len]
  have := List.count_le_length (a := (47 : UInt8)) (l := p)
  omega
theorem path_ascii {p : Str} (h : pathErr p = 0) : ∀ c, c ∈ p → c.toNat < 128 := by
  have h1 := (pathErr_zero.1 h).1
  intro c hc
  have key : ∀ (l : List Str), (∀ n, n ∈ l → ∀ c, c ∈ n → c.toNat < 128) → ∀ c, c ∈ pathOf l → c.toNat < 128 := by
    intro l
    induction l with
    | nil => intro _ c hc; cases hc
    | cons n l ih =>
      intro h c hc
      cases l with
      | nil => exact h n (by simp) c hc
      | cons m l =>
        rw [pathOf_cons (by simp)] at hc
        rcases List.mem_append.1 hc with h2 | h2
        · exact h n (by simp) c h2
        · rcases List.mem_cons.1 h2 with rfl | h2
          · decide
          · exact ih (fun n' hn' => h n' (by simp [hn'])) c h2
  rw [← path_names p] at hc
  refine key _ (fun n hn c hc => ?_) c hc
  have h2 := (isName_iff.1 (h1 n hn)).2.2.2.2.2.2 c hc
  simp [okB] at h2
  omega
theorem a_parents (p : Str) (hp : pathErr p = 0) : ACall C.P 96 [.v (str p)] [] (.os 0 0 (parsOf p).length) [.own false 1 ((parsOf p).map strAV)] := by
  have hpl := pathErr_small hp
  have hasc := path_ascii hp
  refine acall_intro Tryd.func96 rfl _ Tryd.ntmps96 (Nat.le_of_ble_eq_true rfl) _ Tryd.results96 0 rfl rfl ?_
  repeat' (first | refine walk ?_ | (first | (apply opsx_new; apply ex_range_str; (case hx => rfl); (case hT => rfl); (case hs => rfl); (case hN => exact nle rfl))) | ((first | (apply awp_cond; rfl)); all_goals (intro hc; have hp := hc; first | (simp at hp; done) | ((try simp at hp); first | (exfalso; omega) | skip))) | (apply awp_cond_any; rfl))
  all_goals try (exfalso; omega)
  refine Awp.red (red_nil 3 1 rfl (Nat.zero_le _)) ?_
  (refine Awp.red (red_ren (τ := ⟨[(0, .v (str p)), (3, .os 1 0 0), (7, .op 0 0 0)], [(0, .mp (.sit p 0)), (1, .own false 1 [])], 2⟩) [(0, 0), (1, 1)] rfl ?gts2 ?ghs2) ?_; (case gts2 => (repeat (first | exact tsok_nil | refine p_pure ?_ | refine p_op ?_ | refine p_osr ?_ | refine p_mp ?_ | refine p_osx ?_ ?_ | refine p_eq ?_ ?_)); all_goals (first | rfl | trace_state)); (case ghs2 => (repeat' (first | exact hsok_nil | refine q_dead ?_ | refine q_r ?_ | refine q_pm ?_ ?_ ?_ | refine q_sit ?_ ?_ | refine q_row ?_ ?_ | refine q_row3 ?_ ?_ ?_ ?_ | refine q_idx ?_ ?_ | exact renl_nil | apply renl_cons | exact ren_pure rfl | (apply ren_mp; (first | exact maps_low rfl | exact .inr (List.mem_cons_self ..) | exact .inr (List.mem_cons_of_mem _ (List.mem_cons_self ..)) | exact .inr (List.mem_cons_of_mem _ (List.mem_cons_of_mem _ (List.mem_cons_self ..))) | exact .inr (List.mem_cons_of_mem _ (List.mem_cons_of_mem _ (List.mem_cons_of_mem _ (List.mem_cons_self ..)))))) | refine ren_osq ?_ | refine ren_eq ?_ rfl | with_reducible exact List.Perm.refl _)); all_goals (first | rfl | trace_state)))
  refine awp_loop (fun n σ => ∃ i : Nat, i ≤ p.length ∧ n = p.length - i ∧ (True) ∧ σ = ⟨[(0, .v (str p)), (3, .os 1 0 (parsOf (p.take i)).length), (7, .op 0 0 0)], [(0, .mp (.sit p i)), (1, .own false 1 ((parsOf (p.take i)).map strAV))], 2⟩) p.length ⟨0, Nat.zero_le _, rfl, trivial, rfl⟩ ?_
  rintro n σ ⟨i, hi, rfl, -, rfl⟩
  have hfew : (parsOf (p.take i)).length ≤ p.length := by have := parsOf_few (p.take i); rw [List.length_take] at this; omega
  by_cases hlt : i < p.length
  · have hs := parsOf_step hlt
    have ha := hasc p[i] (List.getElem_mem _)
    have hpt : (p.drop 0).take i = p.take i := rfl
    generalize hPI : parsOf (p.take i) = PI at *
    generalize hPJ : parsOf (p.take (i + 1)) = PJ at *
    have hc47 : (p[i].toNat : Int) = 47 ↔ p[i] = 47 := by
      constructor
      · intro h; exact UInt8.toNat.inj (by show p[i].toNat = 47; omega)
      · intro h; rw [h]; rfl
    by_cases h47 : p[i] = 47
    · rw [if_pos h47] at hs
      have h47' := hc47.2 h47
      repeat' (first | refine walk ?_ | (first | (apply opsx_upd; apply ex_next_str; (case hi => rfl); (case hm => rfl); (case hp => exact hlt); (case ha => exact ha); (case hN => exact nle rfl)) | (refine o_sls ?_) | (refine o_fzl ?_) | (refine o_appo ?_)) | ((first | (apply awp_cond; rfl)); all_goals (intro hc; have hp := hc; first | (simp at hp; done) | ((try simp at hp); first | (exfalso; omega) | skip))) | (apply awp_cond_any; rfl))
      all_goals try (exfalso; first | omega | contradiction)
      refine ⟨p.length - (i + 1), _, by omega, red_ren (τ := ⟨[(0, .v (str p)), (3, .os 1 0 (parsOf (p.take (i + 1))).length), (7, .op 0 0 0)], [(0, .mp (.sit p (i + 1))), (1, .own false 1 ((parsOf (p.take (i + 1))).map strAV))], 2⟩) [(0, 0), (2, 1)] rfl ?gts ?ghs, i + 1, by omega, rfl, trivial, rfl⟩; (case gts => (repeat (first | exact tsok_nil | refine p_pure ?_ | refine p_op ?_ | refine p_osr ?_ | refine p_mp ?_ | refine p_osx ?_ ?_ | refine p_eq ?_ ?_)); all_goals (first | rfl | (rw [hPJ, hs]; done) | (rw [hPJ, hs]; first | rfl | (simp [strAV]; done) | (simp [strAV, take_all_map]; done) | (rw [List.map_append, take_all_map]; rfl)) | trace_state)); (case ghs => (repeat' (first | exact hsok_nil | refine q_dead ?_ | refine q_r ?_ | refine q_pm ?_ ?_ ?_ | refine q_sit ?_ ?_ | refine q_row ?_ ?_ | refine q_row3 ?_ ?_ ?_ ?_ | refine q_idx ?_ ?_ | exact renl_nil | apply renl_cons | exact ren_pure rfl | (apply ren_mp; (first | exact maps_low rfl | exact .inr (List.mem_cons_self ..) | exact .inr (List.mem_cons_of_mem _ (List.mem_cons_self ..)) | exact .inr (List.mem_cons_of_mem _ (List.mem_cons_of_mem _ (List.mem_cons_self ..))) | exact .inr (List.mem_cons_of_mem _ (List.mem_cons_of_mem _ (List.mem_cons_of_mem _ (List.mem_cons_self ..)))))) | refine ren_osq ?_ | refine ren_eq ?_ rfl | with_reducible exact List.Perm.refl _)); all_goals (first | rfl | (rw [hPJ, hs]; done) | (rw [hPJ, hs]; first | rfl | (simp [strAV]; done) | (simp [strAV, take_all_map]; done) | (rw [List.map_append, take_all_map]; rfl)) | trace_state))
    · rw [if_neg h47] at hs
      have h47' : ¬ (p[i].toNat : Int) = 47 := fun h => h47 (hc47.1 h)
      repeat' (first | refine walk ?_ | (first | (apply opsx_upd; apply ex_next_str; (case hi => rfl); (case hm => rfl); (case hp => exact hlt); (case ha => exact ha); (case hN => exact nle rfl)) | (refine o_sls ?_) | (refine o_fzl ?_) | (refine o_appo ?_)) | ((first | (apply awp_cond; rfl)); all_goals (intro hc; have hp := hc; first | (simp at hp; done) | ((try simp at hp); first | (exfalso; omega) | skip))) | (apply awp_cond_any; rfl))
      all_goals try (exfalso; first | omega | contradiction)
      refine ⟨p.length - (i + 1), _, by omega, red_ren (τ := ⟨[(0, .v (str p)), (3, .os 1 0 (parsOf (p.take (i + 1))).length), (7, .op 0 0 0)], [(0, .mp (.sit p (i + 1))), (1, .own false 1 ((parsOf (p.take (i + 1))).map strAV))], 2⟩) [(0, 0), (1, 1)] rfl ?gts ?ghs, i + 1, by omega, rfl, trivial, rfl⟩; (case gts => (repeat (first | exact tsok_nil | refine p_pure ?_ | refine p_op ?_ | refine p_osr ?_ | refine p_mp ?_ | refine p_osx ?_ ?_ | refine p_eq ?_ ?_)); all_goals (first | rfl | (rw [hPJ, hs]; done) | (rw [hPJ, hs]; first | rfl | (simp [strAV]; done) | (simp [strAV, take_all_map]; done) | (rw [List.map_append, take_all_map]; rfl)) | trace_state)); (case ghs => (repeat' (first | exact hsok_nil | refine q_dead ?_ | refine q_r ?_ | refine q_pm ?_ ?_ ?_ | refine q_sit ?_ ?_ | refine q_row ?_ ?_ | refine q_row3 ?_ ?_ ?_ ?_ | refine q_idx ?_ ?_ | exact renl_nil | apply renl_cons | exact ren_pure rfl | (apply ren_mp; (first | exact maps_low rfl | exact .inr (List.mem_cons_self ..) | exact .inr (List.mem_cons_of_mem _ (List.mem_cons_self ..)) | exact .inr (List.mem_cons_of_mem _ (List.mem_cons_of_mem _ (List.mem_cons_self ..))) | exact .inr (List.mem_cons_of_mem _ (List.mem_cons_of_mem _ (List.mem_cons_of_mem _ (List.mem_cons_self ..)))))) | refine ren_osq ?_ | refine ren_eq ?_ rfl | with_reducible exact List.Perm.refl _)); all_goals (first | rfl | (rw [hPJ, hs]; done) | (rw [hPJ, hs]; first | rfl | (simp [strAV]; done) | (simp [strAV, take_all_map]; done) | (rw [List.map_append, take_all_map]; rfl)) | trace_state))
  obtain rfl : i = p.length := by omega
  rw [List.take_length] at *
  repeat' (first | refine walk ?_ | (first | (apply opsx_val; apply ex_next_end; (case hi => rfl); (case hm => rfl); (case hp => exact Nat.le_refl _); (case hN => exact nle rfl))) | ((first | (apply awp_cond; rfl)); all_goals (intro hc; have hp := hc; first | (simp at hp; done) | ((try simp at hp); first | (exfalso; omega) | skip))) | (apply awp_cond_any; rfl))
  all_goals try (exfalso; omega)
  (apply fin_ownr (rs := [.tmp 2]) [(1, 0)] 1; (case hr => (repeat (first | exact resok_nil | (apply resok_tmp; rfl) | (apply resok_cell; rfl; rfl; rfl; rfl; rfl)))); (case hL => rfl); (case hh => (repeat' (first | exact hsok_nil | refine q_dead ?_ | refine q_r ?_ | refine q_pm ?_ ?_ ?_ | refine q_sit ?_ ?_ | refine q_row ?_ ?_ | refine q_row3 ?_ ?_ ?_ ?_ | refine q_idx ?_ ?_ | exact renl_nil | apply renl_cons | exact ren_pure rfl | (apply ren_mp; (first | exact maps_low rfl | exact .inr (List.mem_cons_self ..) | exact .inr (List.mem_cons_of_mem _ (List.mem_cons_self ..)) | exact .inr (List.mem_cons_of_mem _ (List.mem_cons_of_mem _ (List.mem_cons_self ..))) | exact .inr (List.mem_cons_of_mem _ (List.mem_cons_of_mem _ (List.mem_cons_of_mem _ (List.mem_cons_self ..)))))) | refine ren_osq ?_ | refine ren_eq ?_ rfl | with_reducible exact List.Perm.refl _)); all_goals (first | rfl | trace_state)); (case hi => exact rfl); (case hz => first | rfl | (simp [pack, AV.ren, AV.ren.renL, lookN, getT, enumT]; done) | (simp [pack, AV.ren, AV.ren.renL, lookN, getT, enumT, *]; done) | trace_state))
end Go.Proofs.YtkkfilkmkdnboaaDoor

/- Merges in the abstract layer, 4: one path; aside. -/
set_option linter.unusedSimpArgs false
set_option linter.unnecessarySimpa false
set_option linter.unusedVariables false
set_option maxHeartbeats 1000000
namespace Go.Proofs.YtkkfilkmkdnboaaDoor
open Go.Ab Go.RowKit
set_option maxRecDepth 10000
attribute [local irreducible] Awp Ops OpsX Wanted Red ExOk Go.Ab.Fin ACall Rz RzL RzRows Enters ResOk RenV RenVL ArgV ArgVL

def Cpy.row (c : Cpy) : List AV := [.v (str c.path), .v (str c.at_)]
def mrow (c k : Nat) : List AV := [.mp 1, .mp 2, .mp 3, .mp 4, .os c 0 k]
/-- The merger's memory. -/
def H6 (B M T O : List Ent) (cs : List Cpy) : List HB := [.own false 5 [mrow 5 cs.length], .mp (sideM B), .mp (sideM M), .mp (sideM T), .mp (sideM O), .own false 2 (cs.map Cpy.row)]
theorem one_split {b x y : Thg} {G : Thg × Thg → Prop} (h1 : x = y → G (x, noT)) (h2 : ¬ x = y → x = b → G (y, noT)) (h3 : ¬ x = y → ¬ x = b → y = b → G (x, noT)) (h4 : ¬ x = y → ¬ x = b → ¬ y = b → x.kind = 1 → G (x, y))
    (h5 : ¬ x = y → ¬ x = b → ¬ y = b → ¬ x.kind = 1 → y.kind = 1 → G (y, x)) (h6 : ¬ x = y → ¬ x = b → ¬ y = b → ¬ x.kind = 1 → ¬ y.kind = 1 → x.kind = 2 → y.kind = 2 → G (y, x))
    (h7 : ¬ x = y → ¬ x = b → ¬ y = b → ¬ x.kind = 1 → ¬ y.kind = 1 → x.kind = 2 → ¬ y.kind = 2 → G (x, noT)) (h8 : ¬ x = y → ¬ x = b → ¬ y = b → ¬ x.kind = 1 → ¬ y.kind = 1 → ¬ x.kind = 2 → G (y, noT)) : G (oneT b x y) := by
  unfold oneT
  by_cases k1 : x = y
  · rw [if_pos k1]; exact h1 k1
  rw [if_neg k1]
  by_cases k2 : x = b
  · rw [if_pos k2]; exact h2 k1 k2
  rw [if_neg k2]
  by_cases k3 : y = b
  · rw [if_pos k3]; exact h3 k1 k2 k3
  rw [if_neg k3]
  by_cases k4 : x.kind = 1
  · rw [if_pos k4]; exact h4 k1 k2 k3 k4
  rw [if_neg k4]
  by_cases k5 : y.kind = 1
  · rw [if_pos k5]; exact h5 k1 k2 k3 k4 k5
  rw [if_neg k5]
  by_cases k6 : x.kind = 2
  · by_cases k7 : y.kind = 2
    · rw [if_pos ⟨k6, k7⟩]; exact h6 k1 k2 k3 k4 k5 k6 k7
    · rw [if_neg (fun h => k7 h.2), if_pos k6]; exact h7 k1 k2 k3 k4 k5 k6 k7
  · rw [if_neg (fun h => k6 h.1), if_neg k6]; exact h8 k1 k2 k3 k4 k5 k6
set_option maxHeartbeats 4000000 in
theorem a_one (B M T O : List Ent) (cs : List Cpy) (p : Str) : ACall C6.P 93 [.op 0 0 0, .v (str p)] (H6 B M T O cs) (.tup [thgAV (oneAt B M T p).1, thgAV (oneAt B M T p).2]) (H6 B M T O cs) := by
  have g1 := side_get B p
  have g2 := side_get M p
  have g3 := side_get T p
  unfold oneAt
  generalize stT B p = b at *
  generalize stT M p = x at *
  generalize stT T p = y at *
  refine one_split (b := b) (x := x) (y := y) (G := fun r => ACall C6.P 93 [.op 0 0 0, .v (str p)] (H6 B M T O cs) (.tup [thgAV r.1, thgAV r.2]) (H6 B M T O cs)) ?_ ?_ ?_ ?_ ?_ ?_ ?_ ?_
  · intro k0
    have d0 : decide (x = y) = true := by simpa using k0
    refine acall_intro (C := C6) Tryd.func93 rfl _ Tryd.ntmps93 (Nat.le_of_ble_eq_true rfl) _ Tryd.results93 6 rfl rfl ?_
    repeat' (first | refine walk ?_ | (first | (apply opsx_val; apply ex_get; (case hm => rfl); (case hn => rfl); (case hk => rfl); (case hT => rfl); (case he => rfl); (case hK => rfl); (case hks => rfl); (case hz => exact zero_thg); (case hzv => exact zero_M); (case hx => exact g1); (case hN => exact nle rfl)) | (apply opsx_val; apply ex_get; (case hm => rfl); (case hn => rfl); (case hk => rfl); (case hT => rfl); (case he => rfl); (case hK => rfl); (case hks => rfl); (case hz => exact zero_thg); (case hzv => exact zero_M); (case hx => exact g2); (case hN => exact nle rfl)) | (apply opsx_val; apply ex_get; (case hm => rfl); (case hn => rfl); (case hk => rfl); (case hT => rfl); (case he => rfl); (case hK => rfl); (case hks => rfl); (case hz => exact zero_thg); (case hzv => exact zero_M); (case hx => exact g3); (case hN => exact nle rfl)) | (apply opsx_val; apply ex_rowEq; rfl; rfl; exact eqK_thg; exact rowEq_thg _ _; (first | exact .inl ⟨rfl, rfl⟩ | exact .inr ⟨rfl, rfl⟩); exact nle rfl)) | ((first | (apply ops_split_t; rfl; rfl; exact nle rfl) | (apply ops_split_f; rfl; rfl; exact nle rfl) | (apply awp_cond; rfl)); all_goals (intro hc; have hp := hc; first | (simp at hp; done) | ((try simp at hp); first | (exfalso; omega) | skip))) | (apply awp_cond_any; rfl))
    (apply fin_ownr (rs := [.cell 4 125, .cell 5 125]) [] 6; (case hr => (repeat (first | exact resok_nil | (apply resok_tmp; rfl) | (apply resok_cell; rfl; rfl; rfl; rfl; rfl)))); (case hL => rfl); (case hh => (repeat' (first | exact hsok_nil | refine q_dead ?_ | refine q_r ?_ | refine q_pm ?_ ?_ ?_ | refine q_sit ?_ ?_ | refine q_row ?_ ?_ | refine q_row3 ?_ ?_ ?_ ?_ | refine q_idx ?_ ?_ | exact renl_nil | apply renl_cons | exact ren_pure rfl | (apply ren_mp; (first | exact maps_low rfl | exact .inr (List.mem_cons_self ..) | exact .inr (List.mem_cons_of_mem _ (List.mem_cons_self ..)) | exact .inr (List.mem_cons_of_mem _ (List.mem_cons_of_mem _ (List.mem_cons_self ..))) | exact .inr (List.mem_cons_of_mem _ (List.mem_cons_of_mem _ (List.mem_cons_of_mem _ (List.mem_cons_self ..)))))) | refine ren_osq ?_ | refine ren_eq ?_ rfl | with_reducible exact List.Perm.refl _)); all_goals (first | exact sideM_pure _ | rfl | exact List.Perm.refl _ | trace_state)); (case hi => exact rfl); (case hz => first | rfl | (simp [pack, AV.ren, AV.ren.renL, lookN, getT, enumT]; done) | (simp [pack, AV.ren, AV.ren.renL, lookN, getT, enumT, *]; done) | trace_state))
  · intro k0 k1
    have d0 : decide (x = y) = false := by simpa using k0
    have d1 : decide (x = b) = true := by simpa using k1
    refine acall_intro (C := C6) Tryd.func93 rfl _ Tryd.ntmps93 (Nat.le_of_ble_eq_true rfl) _ Tryd.results93 6 rfl rfl ?_
    repeat' (first | refine walk ?_ | (first | (apply opsx_val; apply ex_get; (case hm => rfl); (case hn => rfl); (case hk => rfl); (case hT => rfl); (case he => rfl); (case hK => rfl); (case hks => rfl); (case hz => exact zero_thg); (case hzv => exact zero_M); (case hx => exact g1); (case hN => exact nle rfl)) | (apply opsx_val; apply ex_get; (case hm => rfl); (case hn => rfl); (case hk => rfl); (case hT => rfl); (case he => rfl); (case hK => rfl); (case hks => rfl); (case hz => exact zero_thg); (case hzv => exact zero_M); (case hx => exact g2); (case hN => exact nle rfl)) | (apply opsx_val; apply ex_get; (case hm => rfl); (case hn => rfl); (case hk => rfl); (case hT => rfl); (case he => rfl); (case hK => rfl); (case hks => rfl); (case hz => exact zero_thg); (case hzv => exact zero_M); (case hx => exact g3); (case hN => exact nle rfl)) | (apply opsx_val; apply ex_rowEq; rfl; rfl; exact eqK_thg; exact rowEq_thg _ _; (first | exact .inl ⟨rfl, rfl⟩ | exact .inr ⟨rfl, rfl⟩); exact nle rfl)) | ((first | (apply ops_split_t; rfl; rfl; exact nle rfl) | (apply ops_split_f; rfl; rfl; exact nle rfl) | (apply awp_cond; rfl)); all_goals (intro hc; have hp := hc; first | (simp at hp; done) | ((try simp at hp); first | (exfalso; omega) | skip))) | (apply awp_cond_any; rfl))
    (apply fin_ownr (rs := [.cell 4 125, .cell 5 125]) [] 6; (case hr => (repeat (first | exact resok_nil | (apply resok_tmp; rfl) | (apply resok_cell; rfl; rfl; rfl; rfl; rfl)))); (case hL => rfl); (case hh => (repeat' (first | exact hsok_nil | refine q_dead ?_ | refine q_r ?_ | refine q_pm ?_ ?_ ?_ | refine q_sit ?_ ?_ | refine q_row ?_ ?_ | refine q_row3 ?_ ?_ ?_ ?_ | refine q_idx ?_ ?_ | exact renl_nil | apply renl_cons | exact ren_pure rfl | (apply ren_mp; (first | exact maps_low rfl | exact .inr (List.mem_cons_self ..) | exact .inr (List.mem_cons_of_mem _ (List.mem_cons_self ..)) | exact .inr (List.mem_cons_of_mem _ (List.mem_cons_of_mem _ (List.mem_cons_self ..))) | exact .inr (List.mem_cons_of_mem _ (List.mem_cons_of_mem _ (List.mem_cons_of_mem _ (List.mem_cons_self ..)))))) | refine ren_osq ?_ | refine ren_eq ?_ rfl | with_reducible exact List.Perm.refl _)); all_goals (first | exact sideM_pure _ | rfl | exact List.Perm.refl _ | trace_state)); (case hi => exact rfl); (case hz => first | rfl | (simp [pack, AV.ren, AV.ren.renL, lookN, getT, enumT]; done) | (simp [pack, AV.ren, AV.ren.renL, lookN, getT, enumT, *]; done) | trace_state))
  · intro k0 k1 k2
    have d0 : decide (x = y) = false := by simpa using k0
    have d1 : decide (x = b) = false := by simpa using k1
    have d2 : decide (y = b) = true := by simpa using k2
    refine acall_intro (C := C6) Tryd.func93 rfl _ Tryd.ntmps93 (Nat.le_of_ble_eq_true rfl) _ Tryd.results93 6 rfl rfl ?_
    repeat' (first | refine walk ?_ | (first | (apply opsx_val; apply ex_get; (case hm => rfl); (case hn => rfl); (case hk => rfl); (case hT => rfl); (case he => rfl); (case hK => rfl); (case hks => rfl); (case hz => exact zero_thg); (case hzv => exact zero_M); (case hx => exact g1); (case hN => exact nle rfl)) | (apply opsx_val; apply ex_get; (case hm => rfl); (case hn => rfl); (case hk => rfl); (case hT => rfl); (case he => rfl); (case hK => rfl); (case hks => rfl); (case hz => exact zero_thg); (case hzv => exact zero_M); (case hx => exact g2); (case hN => exact nle rfl)) | (apply opsx_val; apply ex_get; (case hm => rfl); (case hn => rfl); (case hk => rfl); (case hT => rfl); (case he => rfl); (case hK => rfl); (case hks => rfl); (case hz => exact zero_thg); (case hzv => exact zero_M); (case hx => exact g3); (case hN => exact nle rfl)) | (apply opsx_val; apply ex_rowEq; rfl; rfl; exact eqK_thg; exact rowEq_thg _ _; (first | exact .inl ⟨rfl, rfl⟩ | exact .inr ⟨rfl, rfl⟩); exact nle rfl)) | ((first | (apply ops_split_t; rfl; rfl; exact nle rfl) | (apply ops_split_f; rfl; rfl; exact nle rfl) | (apply awp_cond; rfl)); all_goals (intro hc; have hp := hc; first | (simp at hp; done) | ((try simp at hp); first | (exfalso; omega) | skip))) | (apply awp_cond_any; rfl))
    (apply fin_ownr (rs := [.cell 4 125, .cell 5 125]) [] 6; (case hr => (repeat (first | exact resok_nil | (apply resok_tmp; rfl) | (apply resok_cell; rfl; rfl; rfl; rfl; rfl)))); (case hL => rfl); (case hh => (repeat' (first | exact hsok_nil | refine q_dead ?_ | refine q_r ?_ | refine q_pm ?_ ?_ ?_ | refine q_sit ?_ ?_ | refine q_row ?_ ?_ | refine q_row3 ?_ ?_ ?_ ?_ | refine q_idx ?_ ?_ | exact renl_nil | apply renl_cons | exact ren_pure rfl | (apply ren_mp; (first | exact maps_low rfl | exact .inr (List.mem_cons_self ..) | exact .inr (List.mem_cons_of_mem _ (List.mem_cons_self ..)) | exact .inr (List.mem_cons_of_mem _ (List.mem_cons_of_mem _ (List.mem_cons_self ..))) | exact .inr (List.mem_cons_of_mem _ (List.mem_cons_of_mem _ (List.mem_cons_of_mem _ (List.mem_cons_self ..)))))) | refine ren_osq ?_ | refine ren_eq ?_ rfl | with_reducible exact List.Perm.refl _)); all_goals (first | exact sideM_pure _ | rfl | exact List.Perm.refl _ | trace_state)); (case hi => exact rfl); (case hz => first | rfl | (simp [pack, AV.ren, AV.ren.renL, lookN, getT, enumT]; done) | (simp [pack, AV.ren, AV.ren.renL, lookN, getT, enumT, *]; done) | trace_state))
  · intro k0 k1 k2 k3
    have d0 : decide (x = y) = false := by simpa using k0
    have d1 : decide (x = b) = false := by simpa using k1
    have d2 : decide (y = b) = false := by simpa using k2
    have d3 : decide (x.kind = 1) = true := by simpa using k3
    refine acall_intro (C := C6) Tryd.func93 rfl _ Tryd.ntmps93 (Nat.le_of_ble_eq_true rfl) _ Tryd.results93 6 rfl rfl ?_
    repeat' (first | refine walk ?_ | (first | (apply opsx_val; apply ex_get; (case hm => rfl); (case hn => rfl); (case hk => rfl); (case hT => rfl); (case he => rfl); (case hK => rfl); (case hks => rfl); (case hz => exact zero_thg); (case hzv => exact zero_M); (case hx => exact g1); (case hN => exact nle rfl)) | (apply opsx_val; apply ex_get; (case hm => rfl); (case hn => rfl); (case hk => rfl); (case hT => rfl); (case he => rfl); (case hK => rfl); (case hks => rfl); (case hz => exact zero_thg); (case hzv => exact zero_M); (case hx => exact g2); (case hN => exact nle rfl)) | (apply opsx_val; apply ex_get; (case hm => rfl); (case hn => rfl); (case hk => rfl); (case hT => rfl); (case he => rfl); (case hK => rfl); (case hks => rfl); (case hz => exact zero_thg); (case hzv => exact zero_M); (case hx => exact g3); (case hN => exact nle rfl)) | (apply opsx_val; apply ex_rowEq; rfl; rfl; exact eqK_thg; exact rowEq_thg _ _; (first | exact .inl ⟨rfl, rfl⟩ | exact .inr ⟨rfl, rfl⟩); exact nle rfl)) | ((first | (apply ops_split_t; rfl; rfl; exact nle rfl) | (apply ops_split_f; rfl; rfl; exact nle rfl) | (apply awp_cond; rfl)); all_goals (intro hc; have hp := hc; first | (simp at hp; done) | ((try simp at hp); first | (exfalso; omega) | skip))) | (apply awp_cond_any; rfl))
    (apply fin_ownr (rs := [.cell 4 125, .cell 5 125]) [] 6; (case hr => (repeat (first | exact resok_nil | (apply resok_tmp; rfl) | (apply resok_cell; rfl; rfl; rfl; rfl; rfl)))); (case hL => rfl); (case hh => (repeat' (first | exact hsok_nil | refine q_dead ?_ | refine q_r ?_ | refine q_pm ?_ ?_ ?_ | refine q_sit ?_ ?_ | refine q_row ?_ ?_ | refine q_row3 ?_ ?_ ?_ ?_ | refine q_idx ?_ ?_ | exact renl_nil | apply renl_cons | exact ren_pure rfl | (apply ren_mp; (first | exact maps_low rfl | exact .inr (List.mem_cons_self ..) | exact .inr (List.mem_cons_of_mem _ (List.mem_cons_self ..)) | exact .inr (List.mem_cons_of_mem _ (List.mem_cons_of_mem _ (List.mem_cons_self ..))) | exact .inr (List.mem_cons_of_mem _ (List.mem_cons_of_mem _ (List.mem_cons_of_mem _ (List.mem_cons_self ..)))))) | refine ren_osq ?_ | refine ren_eq ?_ rfl | with_reducible exact List.Perm.refl _)); all_goals (first | exact sideM_pure _ | rfl | exact List.Perm.refl _ | trace_state)); (case hi => exact rfl); (case hz => first | rfl | (simp [pack, AV.ren, AV.ren.renL, lookN, getT, enumT]; done) | (simp [pack, AV.ren, AV.ren.renL, lookN, getT, enumT, *]; done) | trace_state))
  · intro k0 k1 k2 k3 k4
    have d0 : decide (x = y) = false := by simpa using k0
    have d1 : decide (x = b) = false := by simpa using k1
    have d2 : decide (y = b) = false := by simpa using k2
    have d3 : decide (x.kind = 1) = false := by simpa using k3
    have d4 : decide (y.kind = 1) = true := by simpa using k4
    refine acall_intro (C := C6) Tryd.func93 rfl _ Tryd.ntmps93 (Nat.le_of_ble_eq_true rfl) _ Tryd.results93 6 rfl rfl ?_
    repeat' (first | refine walk ?_ | (first | (apply opsx_val; apply ex_get; (case hm => rfl); (case hn => rfl); (case hk => rfl); (case hT => rfl); (case he => rfl); (case hK => rfl); (case hks => rfl); (case hz => exact zero_thg); (case hzv => exact zero_M); (case hx => exact g1); (case hN => exact nle rfl)) | (apply opsx_val; apply ex_get; (case hm => rfl); (case hn => rfl); (case hk => rfl); (case hT => rfl); (case he => rfl); (case hK => rfl); (case hks => rfl); (case hz => exact zero_thg); (case hzv => exact zero_M); (case hx => exact g2); (case hN => exact nle rfl)) | (apply opsx_val; apply ex_get; (case hm => rfl); (case hn => rfl); (case hk => rfl); (case hT => rfl); (case he => rfl); (case hK => rfl); (case hks => rfl); (case hz => exact zero_thg); (case hzv => exact zero_M); (case hx => exact g3); (case hN => exact nle rfl)) | (apply opsx_val; apply ex_rowEq; rfl; rfl; exact eqK_thg; exact rowEq_thg _ _; (first | exact .inl ⟨rfl, rfl⟩ | exact .inr ⟨rfl, rfl⟩); exact nle rfl)) | ((first | (apply ops_split_t; rfl; rfl; exact nle rfl) | (apply ops_split_f; rfl; rfl; exact nle rfl) | (apply awp_cond; rfl)); all_goals (intro hc; have hp := hc; first | (simp at hp; done) | ((try simp at hp); first | (exfalso; omega) | skip))) | (apply awp_cond_any; rfl))
    (apply fin_ownr (rs := [.cell 4 125, .cell 5 125]) [] 6; (case hr => (repeat (first | exact resok_nil | (apply resok_tmp; rfl) | (apply resok_cell; rfl; rfl; rfl; rfl; rfl)))); (case hL => rfl); (case hh => (repeat' (first | exact hsok_nil | refine q_dead ?_ | refine q_r ?_ | refine q_pm ?_ ?_ ?_ | refine q_sit ?_ ?_ | refine q_row ?_ ?_ | refine q_row3 ?_ ?_ ?_ ?_ | refine q_idx ?_ ?_ | exact renl_nil | apply renl_cons | exact ren_pure rfl | (apply ren_mp; (first | exact maps_low rfl | exact .inr (List.mem_cons_self ..) | exact .inr (List.mem_cons_of_mem _ (List.mem_cons_self ..)) | exact .inr (List.mem_cons_of_mem _ (List.mem_cons_of_mem _ (List.mem_cons_self ..))) | exact .inr (List.mem_cons_of_mem _ (List.mem_cons_of_mem _ (List.mem_cons_of_mem _ (List.mem_cons_self ..)))))) | refine ren_osq ?_ | refine ren_eq ?_ rfl | with_reducible exact List.Perm.refl _)); all_goals (first | exact sideM_pure _ | rfl | exact List.Perm.refl _ | trace_state)); (case hi => exact rfl); (case hz => first | rfl | (simp [pack, AV.ren, AV.ren.renL, lookN, getT, enumT]; done) | (simp [pack, AV.ren, AV.ren.renL, lookN, getT, enumT, *]; done) | trace_state))
  · intro k0 k1 k2 k3 k4 k5 k6
    have d0 : decide (x = y) = false := by simpa using k0
    have d1 : decide (x = b) = false := by simpa using k1
    have d2 : decide (y = b) = false := by simpa using k2
    have d3 : decide (x.kind = 1) = false := by simpa using k3
    have d4 : decide (y.kind = 1) = false := by simpa using k4
    have d5 : decide (x.kind = 2) = true := by simpa using k5
    have d6 : decide (y.kind = 2) = true := by simpa using k6
    refine acall_intro (C := C6) Tryd.func93 rfl _ Tryd.ntmps93 (Nat.le_of_ble_eq_true rfl) _ Tryd.results93 6 rfl rfl ?_
    repeat' (first | refine walk ?_ | (first | (apply opsx_val; apply ex_get; (case hm => rfl); (case hn => rfl); (case hk => rfl); (case hT => rfl); (case he => rfl); (case hK => rfl); (case hks => rfl); (case hz => exact zero_thg); (case hzv => exact zero_M); (case hx => exact g1); (case hN => exact nle rfl)) | (apply opsx_val; apply ex_get; (case hm => rfl); (case hn => rfl); (case hk => rfl); (case hT => rfl); (case he => rfl); (case hK => rfl); (case hks => rfl); (case hz => exact zero_thg); (case hzv => exact zero_M); (case hx => exact g2); (case hN => exact nle rfl)) | (apply opsx_val; apply ex_get; (case hm => rfl); (case hn => rfl); (case hk => rfl); (case hT => rfl); (case he => rfl); (case hK => rfl); (case hks => rfl); (case hz => exact zero_thg); (case hzv => exact zero_M); (case hx => exact g3); (case hN => exact nle rfl)) | (apply opsx_val; apply ex_rowEq; rfl; rfl; exact eqK_thg; exact rowEq_thg _ _; (first | exact .inl ⟨rfl, rfl⟩ | exact .inr ⟨rfl, rfl⟩); exact nle rfl)) | ((first | (apply ops_split_t; rfl; rfl; exact nle rfl) | (apply ops_split_f; rfl; rfl; exact nle rfl) | (apply awp_cond; rfl)); all_goals (intro hc; have hp := hc; first | (simp at hp; done) | ((try simp at hp); first | (exfalso; omega) | skip))) | (apply awp_cond_any; rfl))
    (apply fin_ownr (rs := [.cell 4 125, .cell 5 125]) [] 6; (case hr => (repeat (first | exact resok_nil | (apply resok_tmp; rfl) | (apply resok_cell; rfl; rfl; rfl; rfl; rfl)))); (case hL => rfl); (case hh => (repeat' (first | exact hsok_nil | refine q_dead ?_ | refine q_r ?_ | refine q_pm ?_ ?_ ?_ | refine q_sit ?_ ?_ | refine q_row ?_ ?_ | refine q_row3 ?_ ?_ ?_ ?_ | refine q_idx ?_ ?_ | exact renl_nil | apply renl_cons | exact ren_pure rfl | (apply ren_mp; (first | exact maps_low rfl | exact .inr (List.mem_cons_self ..) | exact .inr (List.mem_cons_of_mem _ (List.mem_cons_self ..)) | exact .inr (List.mem_cons_of_mem _ (List.mem_cons_of_mem _ (List.mem_cons_self ..))) | exact .inr (List.mem_cons_of_mem _ (List.mem_cons_of_mem _ (List.mem_cons_of_mem _ (List.mem_cons_self ..)))))) | refine ren_osq ?_ | refine ren_eq ?_ rfl | with_reducible exact List.Perm.refl _)); all_goals (first | exact sideM_pure _ | rfl | exact List.Perm.refl _ | trace_state)); (case hi => exact rfl); (case hz => first | rfl | (simp [pack, AV.ren, AV.ren.renL, lookN, getT, enumT]; done) | (simp [pack, AV.ren, AV.ren.renL, lookN, getT, enumT, *]; done) | trace_state))
  · intro k0 k1 k2 k3 k4 k5 k6
    have d0 : decide (x = y) = false := by simpa using k0
    have d1 : decide (x = b) = false := by simpa using k1
    have d2 : decide (y = b) = false := by simpa using k2
    have d3 : decide (x.kind = 1) = false := by simpa using k3
    have d4 : decide (y.kind = 1) = false := by simpa using k4
    have d5 : decide (x.kind = 2) = true := by simpa using k5
    have d6 : decide (y.kind = 2) = false := by simpa using k6
    refine acall_intro (C := C6) Tryd.func93 rfl _ Tryd.ntmps93 (Nat.le_of_ble_eq_true rfl) _ Tryd.results93 6 rfl rfl ?_
    repeat' (first | refine walk ?_ | (first | (apply opsx_val; apply ex_get; (case hm => rfl); (case hn => rfl); (case hk => rfl); (case hT => rfl); (case he => rfl); (case hK => rfl); (case hks => rfl); (case hz => exact zero_thg); (case hzv => exact zero_M); (case hx => exact g1); (case hN => exact nle rfl)) | (apply opsx_val; apply ex_get; (case hm => rfl); (case hn => rfl); (case hk => rfl); (case hT => rfl); (case he => rfl); (case hK => rfl); (case hks => rfl); (case hz => exact zero_thg); (case hzv => exact zero_M); (case hx => exact g2); (case hN => exact nle rfl)) | (apply opsx_val; apply ex_get; (case hm => rfl); (case hn => rfl); (case hk => rfl); (case hT => rfl); (case he => rfl); (case hK => rfl); (case hks => rfl); (case hz => exact zero_thg); (case hzv => exact zero_M); (case hx => exact g3); (case hN => exact nle rfl)) | (apply opsx_val; apply ex_rowEq; rfl; rfl; exact eqK_thg; exact rowEq_thg _ _; (first | exact .inl ⟨rfl, rfl⟩ | exact .inr ⟨rfl, rfl⟩); exact nle rfl)) | ((first | (apply ops_split_t; rfl; rfl; exact nle rfl) | (apply ops_split_f; rfl; rfl; exact nle rfl) | (apply awp_cond; rfl)); all_goals (intro hc; have hp := hc; first | (simp at hp; done) | ((try simp at hp); first | (exfalso; omega) | skip))) | (apply awp_cond_any; rfl))
    (apply fin_ownr (rs := [.cell 4 125, .cell 5 125]) [] 6; (case hr => (repeat (first | exact resok_nil | (apply resok_tmp; rfl) | (apply resok_cell; rfl; rfl; rfl; rfl; rfl)))); (case hL => rfl); (case hh => (repeat' (first | exact hsok_nil | refine q_dead ?_ | refine q_r ?_ | refine q_pm ?_ ?_ ?_ | refine q_sit ?_ ?_ | refine q_row ?_ ?_ | refine q_row3 ?_ ?_ ?_ ?_ | refine q_idx ?_ ?_ | exact renl_nil | apply renl_cons | exact ren_pure rfl | (apply ren_mp; (first | exact maps_low rfl | exact .inr (List.mem_cons_self ..) | exact .inr (List.mem_cons_of_mem _ (List.mem_cons_self ..)) | exact .inr (List.mem_cons_of_mem _ (List.mem_cons_of_mem _ (List.mem_cons_self ..))) | exact .inr (List.mem_cons_of_mem _ (List.mem_cons_of_mem _ (List.mem_cons_of_mem _ (List.mem_cons_self ..)))))) | refine ren_osq ?_ | refine ren_eq ?_ rfl | with_reducible exact List.Perm.refl _)); all_goals (first | exact sideM_pure _ | rfl | exact List.Perm.refl _ | trace_state)); (case hi => exact rfl); (case hz => first | rfl | (simp [pack, AV.ren, AV.ren.renL, lookN, getT, enumT]; done) | (simp [pack, AV.ren, AV.ren.renL, lookN, getT, enumT, *]; done) | trace_state))
  · intro k0 k1 k2 k3 k4 k5
    have d0 : decide (x = y) = false := by simpa using k0
    have d1 : decide (x = b) = false := by simpa using k1
    have d2 : decide (y = b) = false := by simpa using k2
    have d3 : decide (x.kind = 1) = false := by simpa using k3
    have d4 : decide (y.kind = 1) = false := by simpa using k4
    have d5 : decide (x.kind = 2) = false := by simpa using k5
    refine acall_intro (C := C6) Tryd.func93 rfl _ Tryd.ntmps93 (Nat.le_of_ble_eq_true rfl) _ Tryd.results93 6 rfl rfl ?_
    repeat' (first | refine walk ?_ | (first | (apply opsx_val; apply ex_get; (case hm => rfl); (case hn => rfl); (case hk => rfl); (case hT => rfl); (case he => rfl); (case hK => rfl); (case hks => rfl); (case hz => exact zero_thg); (case hzv => exact zero_M); (case hx => exact g1); (case hN => exact nle rfl)) | (apply opsx_val; apply ex_get; (case hm => rfl); (case hn => rfl); (case hk => rfl); (case hT => rfl); (case he => rfl); (case hK => rfl); (case hks => rfl); (case hz => exact zero_thg); (case hzv => exact zero_M); (case hx => exact g2); (case hN => exact nle rfl)) | (apply opsx_val; apply ex_get; (case hm => rfl); (case hn => rfl); (case hk => rfl); (case hT => rfl); (case he => rfl); (case hK => rfl); (case hks => rfl); (case hz => exact zero_thg); (case hzv => exact zero_M); (case hx => exact g3); (case hN => exact nle rfl)) | (apply opsx_val; apply ex_rowEq; rfl; rfl; exact eqK_thg; exact rowEq_thg _ _; (first | exact .inl ⟨rfl, rfl⟩ | exact .inr ⟨rfl, rfl⟩); exact nle rfl)) | ((first | (apply ops_split_t; rfl; rfl; exact nle rfl) | (apply ops_split_f; rfl; rfl; exact nle rfl) | (apply awp_cond; rfl)); all_goals (intro hc; have hp := hc; first | (simp at hp; done) | ((try simp at hp); first | (exfalso; omega) | skip))) | (apply awp_cond_any; rfl))
    (apply fin_ownr (rs := [.cell 4 125, .cell 5 125]) [] 6; (case hr => (repeat (first | exact resok_nil | (apply resok_tmp; rfl) | (apply resok_cell; rfl; rfl; rfl; rfl; rfl)))); (case hL => rfl); (case hh => (repeat' (first | exact hsok_nil | refine q_dead ?_ | refine q_r ?_ | refine q_pm ?_ ?_ ?_ | refine q_sit ?_ ?_ | refine q_row ?_ ?_ | refine q_row3 ?_ ?_ ?_ ?_ | refine q_idx ?_ ?_ | exact renl_nil | apply renl_cons | exact ren_pure rfl | (apply ren_mp; (first | exact maps_low rfl | exact .inr (List.mem_cons_self ..) | exact .inr (List.mem_cons_of_mem _ (List.mem_cons_self ..)) | exact .inr (List.mem_cons_of_mem _ (List.mem_cons_of_mem _ (List.mem_cons_self ..))) | exact .inr (List.mem_cons_of_mem _ (List.mem_cons_of_mem _ (List.mem_cons_of_mem _ (List.mem_cons_self ..)))))) | refine ren_osq ?_ | refine ren_eq ?_ rfl | with_reducible exact List.Perm.refl _)); all_goals (first | exact sideM_pure _ | rfl | exact List.Perm.refl _ | trace_state)); (case hi => exact rfl); (case hz => first | rfl | (simp [pack, AV.ren, AV.ren.renL, lookN, getT, enumT]; done) | (simp [pack, AV.ren, AV.ren.renL, lookN, getT, enumT, *]; done) | trace_state))
end Go.Proofs.YtkkfilkmkdnboaaDoor

/- Merges in the abstract layer, 5: aside. -/
set_option linter.unusedSimpArgs false
set_option linter.unnecessarySimpa false
set_option linter.unusedVariables false
set_option maxHeartbeats 1000000
namespace Go.Proofs.YtkkfilkmkdnboaaDoor
open Go.Ab Go.RowKit
set_option maxRecDepth 10000
attribute [local irreducible] Awp Ops OpsX Wanted Red ExOk Go.Ab.Fin ACall Rz RzL RzRows Enters ResOk RenV RenVL ArgV ArgVL

/-- .. behind a file gone aside. -/
def H7 (B M T O : List Ent) (cs : List Cpy) : List HB := [.own false 5 [mrow 6 cs.length], .mp (sideM B), .mp (sideM M), .mp (sideM T), .mp (sideM O), .dead, .own false 2 (cs.map Cpy.row)]
theorem kind_zero {t : List Ent} {p : Str} : (stT t p).kind = 0 ↔ hitE t p = false := by
  rw [st_zero, look_hit]
  cases look t p <;> simp
theorem asideN_succ {m t o : List Ent} {p : Str} {k n : Nat} : asideN m t o p (k + 1) n = if asideE p (n : Int) = 0 then (if freeQ m t o (asideQ p (n : Int)) = true then some (asideQ p (n : Int)) else asideN m t o p k (n + 1)) else none := rfl
theorem asideErr_of {p : Str} {n : Nat} (hp : pathErr p = 0) (h1 : 1 ≤ n) (h2 : n ≤ 99) : asideErr p (n : Int) = asideE p (n : Int) := by
  unfold asideErr
  rw [if_pos hp, if_neg (by omega)]
theorem asideE_two (p : Str) (n : Int) : asideE p n = 0 ∨ asideE p n = 2 := by
  unfold asideE
  split
  · exact .inr rfl
  · split
    · exact .inr rfl
    · exact .inl rfl
set_option maxHeartbeats 8000000 in
theorem m_aside_no (B M T O : List Ent) (cs : List Cpy) (p x : Str) (hp : pathErr p = 0) (hR : asideN M T O p 99 1 = none) (hc : cs.length ≤ 1000000) : ACall C6.P 95 [.op 0 0 0, .v (str p), thgAV ⟨2, x⟩] (H6 B M T O cs) (.v (.bool false)) (H6 B M T O cs) := by
  have hpl := pathErr_small hp
  refine acall_intro (C := C6) Tryd.func95 rfl _ Tryd.ntmps95 (Nat.le_of_ble_eq_true rfl) _ Tryd.results95 6 rfl rfl ?_
  repeat' (first | refine walk ?_ | (first | fail) | ((first | (apply ops_split_t; rfl; rfl; exact nle rfl) | (apply ops_split_f; rfl; rfl; exact nle rfl) | (apply awp_cond; rfl)); all_goals (intro hc; have hp := hc; first | (simp at hp; done) | ((try simp at hp); first | (exfalso; omega) | skip))) | (apply awp_cond_any; rfl))
  all_goals try (exfalso; omega)
  (refine Awp.red (red_ren (τ := ⟨[(0, .op 0 0 0), (1, .v (str p)), (5, .op 6 0 0), (7, .v (.int .i64 (1 : Int)))], [(0, .own false 5 [mrow 5 cs.length]), (1, .mp (sideM B)), (2, .mp (sideM M)), (3, .mp (sideM T)), (4, .mp (sideM O)), (5, .own false 2 (cs.map Cpy.row)), (6, .own false 2 [[.v (.int .i64 2), .v (str x)]])], 7⟩) [(6, 6)] rfl ?gts2 ?ghs2) ?_; (case gts2 => (repeat (first | exact tsok_nil | refine p_pure ?_ | refine p_op ?_ | refine p_osr ?_ | refine p_mp ?_ | refine p_osx ?_ ?_ | refine p_eq ?_ ?_)); all_goals (first | exact sideM_pure _ | rfl | trace_state)); (case ghs2 => (repeat' (first | exact hsok_nil | refine q_dead ?_ | refine q_r ?_ | refine q_pm ?_ ?_ ?_ | refine q_sit ?_ ?_ | refine q_row ?_ ?_ | refine q_row3 ?_ ?_ ?_ ?_ | refine q_idx ?_ ?_ | exact renl_nil | apply renl_cons | exact ren_pure rfl | (apply ren_mp; (first | exact maps_low rfl | exact .inr (List.mem_cons_self ..) | exact .inr (List.mem_cons_of_mem _ (List.mem_cons_self ..)) | exact .inr (List.mem_cons_of_mem _ (List.mem_cons_of_mem _ (List.mem_cons_self ..))) | exact .inr (List.mem_cons_of_mem _ (List.mem_cons_of_mem _ (List.mem_cons_of_mem _ (List.mem_cons_self ..)))))) | refine ren_osq ?_ | refine ren_eq ?_ rfl | with_reducible exact List.Perm.refl _)); all_goals (first | exact sideM_pure _ | rfl | trace_state)))
  refine awp_loop (fun n σ => ∃ i : Nat, i ≤ 99 ∧ n = 99 - i ∧ asideN M T O p (99 - i) (i + 1) = none ∧ σ = ⟨[(0, .op 0 0 0), (1, .v (str p)), (5, .op 6 0 0), (7, .v (.int .i64 ((i : Int) + 1)))], [(0, .own false 5 [mrow 5 cs.length]), (1, .mp (sideM B)), (2, .mp (sideM M)), (3, .mp (sideM T)), (4, .mp (sideM O)), (5, .own false 2 (cs.map Cpy.row)), (6, .own false 2 [[.v (.int .i64 2), .v (str x)]])], 7⟩) 99 ⟨0, by omega, rfl, hR, rfl⟩ ?_
  rintro n σ ⟨i, hi, rfl, hsofar, rfl⟩
  by_cases hlt : i < 99
  · rw [show 99 - i = (99 - (i + 1)) + 1 from by omega, asideN_succ] at hsofar
    have has := a_aside p ((i : Int) + 1) (by omega)
    have he := asideErr_of (n := i + 1) hp (by omega) (by omega)
    rw [show ((i + 1 : Nat) : Int) = (i : Int) + 1 from by omega] at he hsofar
    rw [he] at has
    have htwo := asideE_two p ((i : Int) + 1)
    generalize asideE p ((i : Int) + 1) = E at *
    generalize asideQ p ((i : Int) + 1) = Q at *
    have g1 := side_get M Q
    have g2 := side_get T Q
    have g3 := side_get O Q
    have k1 := @kind_zero M Q
    have k2 := @kind_zero T Q
    have k3 := @kind_zero O Q
    have hfr : freeQ M T O Q = (!hitE M Q && !hitE T Q && !hitE O Q) := rfl
    generalize stT M Q = a at *
    generalize stT T Q = b at *
    generalize stT O Q = c at *
    generalize hitE M Q = A at *
    generalize hitE T Q = B2 at *
    generalize hitE O Q = D at *
    rcases htwo with rfl | rfl
    · rw [if_pos rfl] at hsofar
      have hns : ¬ freeQ M T O Q = true := fun h => by rw [if_pos h] at hsofar; cases hsofar
      rw [if_neg hns] at hsofar
      rw [hfr] at hns
      repeat' (first | refine walk ?_ | (first | (apply to_call Tryd.func124 rfl rfl; intro hIsFn; refine o_callf hIsFn (has ..) ?_; skip) | (apply opsx_val; apply ex_get; (case hm => rfl); (case hn => rfl); (case hk => rfl); (case hT => rfl); (case he => rfl); (case hK => rfl); (case hks => rfl); (case hz => exact zero_thg); (case hzv => exact zero_M); (case hx => exact g1); (case hN => exact nle rfl)) | (apply opsx_val; apply ex_get; (case hm => rfl); (case hn => rfl); (case hk => rfl); (case hT => rfl); (case he => rfl); (case hK => rfl); (case hks => rfl); (case hz => exact zero_thg); (case hzv => exact zero_M); (case hx => exact g2); (case hN => exact nle rfl)) | (apply opsx_val; apply ex_get; (case hm => rfl); (case hn => rfl); (case hk => rfl); (case hT => rfl); (case he => rfl); (case hK => rfl); (case hks => rfl); (case hz => exact zero_thg); (case hzv => exact zero_M); (case hx => exact g3); (case hN => exact nle rfl))) | ((first | (apply ops_split_t; rfl; rfl; exact nle rfl) | (apply ops_split_f; rfl; rfl; exact nle rfl) | (apply awp_cond; rfl)); all_goals (intro hc; have hp := hc; first | (simp at hp; done) | ((try simp at hp); first | (exfalso; omega) | skip))) | (apply awp_cond_any; rfl))
      all_goals try (exfalso; first | omega | contradiction | (simp_all; done))
      all_goals (refine ⟨99 - (i + 1), _, by omega, red_ren (τ := ⟨[(0, .op 0 0 0), (1, .v (str p)), (5, .op 6 0 0), (7, .v (.int .i64 (((i + 1 : Nat) : Int) + 1)))], [(0, .own false 5 [mrow 5 cs.length]), (1, .mp (sideM B)), (2, .mp (sideM M)), (3, .mp (sideM T)), (4, .mp (sideM O)), (5, .own false 2 (cs.map Cpy.row)), (6, .own false 2 [[.v (.int .i64 2), .v (str x)]])], 7⟩) [(6, 6)] rfl ?gts ?ghs, i + 1, by omega, rfl, hsofar, rfl⟩; (case gts => (repeat (first | exact tsok_nil | refine p_pure ?_ | refine p_op ?_ | refine p_osr ?_ | refine p_mp ?_ | refine p_osx ?_ ?_ | refine p_eq ?_ ?_)); all_goals (first | exact sideM_pure _ | rfl | (congr 2; omega) | (congr 1; congr 1; omega) | trace_state)); (case ghs => (repeat' (first | exact hsok_nil | refine q_dead ?_ | refine q_r ?_ | refine q_pm ?_ ?_ ?_ | refine q_sit ?_ ?_ | refine q_row ?_ ?_ | refine q_row3 ?_ ?_ ?_ ?_ | refine q_idx ?_ ?_ | exact renl_nil | apply renl_cons | exact ren_pure rfl | (apply ren_mp; (first | exact maps_low rfl | exact .inr (List.mem_cons_self ..) | exact .inr (List.mem_cons_of_mem _ (List.mem_cons_self ..)) | exact .inr (List.mem_cons_of_mem _ (List.mem_cons_of_mem _ (List.mem_cons_self ..))) | exact .inr (List.mem_cons_of_mem _ (List.mem_cons_of_mem _ (List.mem_cons_of_mem _ (List.mem_cons_self ..)))))) | refine ren_osq ?_ | refine ren_eq ?_ rfl | with_reducible exact List.Perm.refl _)); all_goals (first | exact sideM_pure _ | rfl | (congr 2; omega) | (congr 1; congr 1; omega) | trace_state)))
    · repeat' (first | refine walk ?_ | (first | (apply to_call Tryd.func124 rfl rfl; intro hIsFn; refine o_callf hIsFn (has ..) ?_; skip)) | ((first | (apply ops_split_t; rfl; rfl; exact nle rfl) | (apply ops_split_f; rfl; rfl; exact nle rfl) | (apply awp_cond; rfl)); all_goals (intro hc; have hp := hc; first | (simp at hp; done) | ((try simp at hp); first | (exfalso; omega) | skip))) | (apply awp_cond_any; rfl))
      all_goals try (exfalso; first | omega | contradiction)
      all_goals ((apply fin_ownr (rs := [.tmp 6]) [] 6; (case hr => (repeat (first | exact resok_nil | (apply resok_tmp; rfl) | (apply resok_cell; rfl; rfl; rfl; rfl; rfl)))); (case hL => rfl); (case hh => (repeat' (first | exact hsok_nil | refine q_dead ?_ | refine q_r ?_ | refine q_pm ?_ ?_ ?_ | refine q_sit ?_ ?_ | refine q_row ?_ ?_ | refine q_row3 ?_ ?_ ?_ ?_ | refine q_idx ?_ ?_ | exact renl_nil | apply renl_cons | exact ren_pure rfl | (apply ren_mp; (first | exact maps_low rfl | exact .inr (List.mem_cons_self ..) | exact .inr (List.mem_cons_of_mem _ (List.mem_cons_self ..)) | exact .inr (List.mem_cons_of_mem _ (List.mem_cons_of_mem _ (List.mem_cons_self ..))) | exact .inr (List.mem_cons_of_mem _ (List.mem_cons_of_mem _ (List.mem_cons_of_mem _ (List.mem_cons_self ..)))))) | refine ren_osq ?_ | refine ren_eq ?_ rfl | with_reducible exact List.Perm.refl _)); all_goals (first | exact sideM_pure _ | rfl | trace_state)); (case hi => exact rfl); (case hz => first | rfl | (simp [pack, AV.ren, AV.ren.renL, lookN, getT, enumT]; done) | (simp [pack, AV.ren, AV.ren.renL, lookN, getT, enumT, *]; done) | trace_state)))
  · obtain rfl : i = 99 := by omega
    repeat' (first | refine walk ?_ | (first | fail) | ((first | (apply ops_split_t; rfl; rfl; exact nle rfl) | (apply ops_split_f; rfl; rfl; exact nle rfl) | (apply awp_cond; rfl)); all_goals (intro hc; have hp := hc; first | (simp at hp; done) | ((try simp at hp); first | (exfalso; omega) | skip))) | (apply awp_cond_any; rfl))
    all_goals try (exfalso; omega)
    all_goals ((apply fin_ownr (rs := [.tmp 6]) [] 6; (case hr => (repeat (first | exact resok_nil | (apply resok_tmp; rfl) | (apply resok_cell; rfl; rfl; rfl; rfl; rfl)))); (case hL => rfl); (case hh => (repeat' (first | exact hsok_nil | refine q_dead ?_ | refine q_r ?_ | refine q_pm ?_ ?_ ?_ | refine q_sit ?_ ?_ | refine q_row ?_ ?_ | refine q_row3 ?_ ?_ ?_ ?_ | refine q_idx ?_ ?_ | exact renl_nil | apply renl_cons | exact ren_pure rfl | (apply ren_mp; (first | exact maps_low rfl | exact .inr (List.mem_cons_self ..) | exact .inr (List.mem_cons_of_mem _ (List.mem_cons_self ..)) | exact .inr (List.mem_cons_of_mem _ (List.mem_cons_of_mem _ (List.mem_cons_self ..))) | exact .inr (List.mem_cons_of_mem _ (List.mem_cons_of_mem _ (List.mem_cons_of_mem _ (List.mem_cons_self ..)))))) | refine ren_osq ?_ | refine ren_eq ?_ rfl | with_reducible exact List.Perm.refl _)); all_goals (first | exact sideM_pure _ | rfl | trace_state)); (case hi => exact rfl); (case hz => first | rfl | (simp [pack, AV.ren, AV.ren.renL, lookN, getT, enumT]; done) | (simp [pack, AV.ren, AV.ren.renL, lookN, getT, enumT, *]; done) | trace_state)))
set_option maxHeartbeats 8000000 in
theorem m_aside_yes (B M T O : List Ent) (cs : List Cpy) (p x q : Str) (hp : pathErr p = 0) (hR : asideN M T O p 99 1 = some q) (hO : rising entLt O = true) (hc : cs.length ≤ 1000000) : ACall C6.P 95 [.op 0 0 0, .v (str p), thgAV ⟨2, x⟩] (H6 B M T O cs) (.v (.bool true)) (H7 B M T (putT O ⟨q, false, x, 1⟩) (cs ++ [⟨p, q⟩])) := by
  have hpl := pathErr_small hp
  refine acall_intro (C := C6) Tryd.func95 rfl _ Tryd.ntmps95 (Nat.le_of_ble_eq_true rfl) _ Tryd.results95 6 rfl rfl ?_
  repeat' (first | refine walk ?_ | (first | fail) | ((first | (apply ops_split_t; rfl; rfl; exact nle rfl) | (apply ops_split_f; rfl; rfl; exact nle rfl) | (apply awp_cond; rfl)); all_goals (intro hc; have hp := hc; first | (simp at hp; done) | ((try simp at hp); first | (exfalso; omega) | skip))) | (apply awp_cond_any; rfl))
  all_goals try (exfalso; omega)
  (refine Awp.red (red_ren (τ := ⟨[(0, .op 0 0 0), (1, .v (str p)), (5, .op 6 0 0), (7, .v (.int .i64 (1 : Int)))], [(0, .own false 5 [mrow 5 cs.length]), (1, .mp (sideM B)), (2, .mp (sideM M)), (3, .mp (sideM T)), (4, .mp (sideM O)), (5, .own false 2 (cs.map Cpy.row)), (6, .own false 2 [[.v (.int .i64 2), .v (str x)]])], 7⟩) [(6, 6)] rfl ?gts2 ?ghs2) ?_; (case gts2 => (repeat (first | exact tsok_nil | refine p_pure ?_ | refine p_op ?_ | refine p_osr ?_ | refine p_mp ?_ | refine p_osx ?_ ?_ | refine p_eq ?_ ?_)); all_goals (first | exact sideM_pure _ | rfl | trace_state)); (case ghs2 => (repeat' (first | exact hsok_nil | refine q_dead ?_ | refine q_r ?_ | refine q_pm ?_ ?_ ?_ | refine q_sit ?_ ?_ | refine q_row ?_ ?_ | refine q_row3 ?_ ?_ ?_ ?_ | refine q_idx ?_ ?_ | exact renl_nil | apply renl_cons | exact ren_pure rfl | (apply ren_mp; (first | exact maps_low rfl | exact .inr (List.mem_cons_self ..) | exact .inr (List.mem_cons_of_mem _ (List.mem_cons_self ..)) | exact .inr (List.mem_cons_of_mem _ (List.mem_cons_of_mem _ (List.mem_cons_self ..))) | exact .inr (List.mem_cons_of_mem _ (List.mem_cons_of_mem _ (List.mem_cons_of_mem _ (List.mem_cons_self ..)))))) | refine ren_osq ?_ | refine ren_eq ?_ rfl | with_reducible exact List.Perm.refl _)); all_goals (first | exact sideM_pure _ | rfl | trace_state)))
  refine awp_loop (fun n σ => ∃ i : Nat, i ≤ 99 ∧ n = 99 - i ∧ asideN M T O p (99 - i) (i + 1) = some q ∧ σ = ⟨[(0, .op 0 0 0), (1, .v (str p)), (5, .op 6 0 0), (7, .v (.int .i64 ((i : Int) + 1)))], [(0, .own false 5 [mrow 5 cs.length]), (1, .mp (sideM B)), (2, .mp (sideM M)), (3, .mp (sideM T)), (4, .mp (sideM O)), (5, .own false 2 (cs.map Cpy.row)), (6, .own false 2 [[.v (.int .i64 2), .v (str x)]])], 7⟩) 99 ⟨0, by omega, rfl, hR, rfl⟩ ?_
  rintro n σ ⟨i, hi, rfl, hsofar, rfl⟩
  by_cases hlt : i < 99
  · rw [show 99 - i = (99 - (i + 1)) + 1 from by omega, asideN_succ] at hsofar
    have has := a_aside p ((i : Int) + 1) (by omega)
    have he := asideErr_of (n := i + 1) hp (by omega) (by omega)
    rw [show ((i + 1 : Nat) : Int) = (i : Int) + 1 from by omega] at he hsofar
    rw [he] at has
    have htwo := asideE_two p ((i : Int) + 1)
    generalize asideE p ((i : Int) + 1) = E at *
    generalize asideQ p ((i : Int) + 1) = Q at *
    have g1 := side_get M Q
    have g2 := side_get T Q
    have g3 := side_get O Q
    have k1 := @kind_zero M Q
    have k2 := @kind_zero T Q
    have k3 := @kind_zero O Q
    have hfr : freeQ M T O Q = (!hitE M Q && !hitE T Q && !hitE O Q) := rfl
    generalize stT M Q = a at *
    generalize stT T Q = b at *
    generalize stT O Q = c at *
    generalize hitE M Q = A at *
    generalize hitE T Q = B2 at *
    generalize hitE O Q = D at *
    rcases htwo with rfl | rfl
    · rw [if_pos rfl] at hsofar
      by_cases hns : freeQ M T O Q = true
      · rw [if_pos hns] at hsofar
        injection hsofar with hsofar
        subst hsofar
        rw [hfr] at hns
        have d1 : decide (a.kind = 0) = true := by simp_all
        have d2 : decide (b.kind = 0) = true := by simp_all
        have d3 : decide (c.kind = 0) = true := by simp_all
        have hpu := side_put (e := ⟨Q, false, x, 1⟩) hO
        repeat' (first | refine walk ?_ | (first | (apply to_call Tryd.func124 rfl rfl; intro hIsFn; refine o_callf hIsFn (has ..) ?_; skip) | (apply opsx_val; apply ex_get; (case hm => rfl); (case hn => rfl); (case hk => rfl); (case hT => rfl); (case he => rfl); (case hK => rfl); (case hks => rfl); (case hz => exact zero_thg); (case hzv => exact zero_M); (case hx => exact g1); (case hN => exact nle rfl)) | (apply opsx_val; apply ex_get; (case hm => rfl); (case hn => rfl); (case hk => rfl); (case hT => rfl); (case he => rfl); (case hK => rfl); (case hks => rfl); (case hz => exact zero_thg); (case hzv => exact zero_M); (case hx => exact g2); (case hN => exact nle rfl)) | (apply opsx_val; apply ex_get; (case hm => rfl); (case hn => rfl); (case hk => rfl); (case hT => rfl); (case he => rfl); (case hK => rfl); (case hks => rfl); (case hz => exact zero_thg); (case hzv => exact zero_M); (case hx => exact g3); (case hN => exact nle rfl)) | (apply opsx_store; apply ex_mapUpdate; rfl; rfl; rfl; rfl; rfl; rfl; rfl; rfl) | (refine o_fzl ?_) | (refine o_appo ?_)) | ((first | (apply ops_split_t; rfl; rfl; exact nle rfl) | (apply ops_split_f; rfl; rfl; exact nle rfl) | (apply awp_cond; rfl)); all_goals (intro hc; have hp := hc; first | (simp at hp; done) | ((try simp at hp); first | (exfalso; omega) | skip))) | (apply awp_cond_any; rfl))
        all_goals try (exfalso; first | omega | contradiction)
        all_goals ((apply fin_ownr (rs := [.tmp 6]) [(7, 6)] 7; (case hr => (repeat (first | exact resok_nil | (apply resok_tmp; rfl) | (apply resok_cell; rfl; rfl; rfl; rfl; rfl)))); (case hL => rfl); (case hh => (repeat' (first | exact hsok_nil | refine q_dead ?_ | refine q_r ?_ | refine q_pm ?_ ?_ ?_ | refine q_sit ?_ ?_ | refine q_row ?_ ?_ | refine q_row3 ?_ ?_ ?_ ?_ | refine q_idx ?_ ?_ | exact renl_nil | apply renl_cons | exact ren_pure rfl | (apply ren_mp; (first | exact maps_low rfl | exact .inr (List.mem_cons_self ..) | exact .inr (List.mem_cons_of_mem _ (List.mem_cons_self ..)) | exact .inr (List.mem_cons_of_mem _ (List.mem_cons_of_mem _ (List.mem_cons_self ..))) | exact .inr (List.mem_cons_of_mem _ (List.mem_cons_of_mem _ (List.mem_cons_of_mem _ (List.mem_cons_self ..)))))) | refine ren_osq ?_ | refine ren_eq ?_ rfl | with_reducible exact List.Perm.refl _)); all_goals (first | exact sideM_pure _ | exact hpu | rfl | (rw [List.map_append, take_all_map]; rfl) | (simp [take_all_map]; done) | trace_state)); (case hi => exact rfl); (case hz => first | rfl | (simp [pack, AV.ren, AV.ren.renL, lookN, getT, enumT]; done) | (simp [pack, AV.ren, AV.ren.renL, lookN, getT, enumT, *]; done) | trace_state)))
      · rw [if_neg hns] at hsofar
        rw [hfr] at hns
        repeat' (first | refine walk ?_ | (first | (apply to_call Tryd.func124 rfl rfl; intro hIsFn; refine o_callf hIsFn (has ..) ?_; skip) | (apply opsx_val; apply ex_get; (case hm => rfl); (case hn => rfl); (case hk => rfl); (case hT => rfl); (case he => rfl); (case hK => rfl); (case hks => rfl); (case hz => exact zero_thg); (case hzv => exact zero_M); (case hx => exact g1); (case hN => exact nle rfl)) | (apply opsx_val; apply ex_get; (case hm => rfl); (case hn => rfl); (case hk => rfl); (case hT => rfl); (case he => rfl); (case hK => rfl); (case hks => rfl); (case hz => exact zero_thg); (case hzv => exact zero_M); (case hx => exact g2); (case hN => exact nle rfl)) | (apply opsx_val; apply ex_get; (case hm => rfl); (case hn => rfl); (case hk => rfl); (case hT => rfl); (case he => rfl); (case hK => rfl); (case hks => rfl); (case hz => exact zero_thg); (case hzv => exact zero_M); (case hx => exact g3); (case hN => exact nle rfl)) | (apply opsx_store; apply ex_mapUpdate; rfl; rfl; rfl; rfl; rfl; rfl; rfl; rfl) | (refine o_fzl ?_) | (refine o_appo ?_)) | ((first | (apply ops_split_t; rfl; rfl; exact nle rfl) | (apply ops_split_f; rfl; rfl; exact nle rfl) | (apply awp_cond; rfl)); all_goals (intro hc; have hp := hc; first | (simp at hp; done) | ((try simp at hp); first | (exfalso; omega) | skip))) | (apply awp_cond_any; rfl))
        all_goals try (exfalso; first | omega | contradiction | (simp_all; done))
        all_goals (refine ⟨99 - (i + 1), _, by omega, red_ren (τ := ⟨[(0, .op 0 0 0), (1, .v (str p)), (5, .op 6 0 0), (7, .v (.int .i64 (((i + 1 : Nat) : Int) + 1)))], [(0, .own false 5 [mrow 5 cs.length]), (1, .mp (sideM B)), (2, .mp (sideM M)), (3, .mp (sideM T)), (4, .mp (sideM O)), (5, .own false 2 (cs.map Cpy.row)), (6, .own false 2 [[.v (.int .i64 2), .v (str x)]])], 7⟩) [(6, 6)] rfl ?gts ?ghs, i + 1, by omega, rfl, hsofar, rfl⟩; (case gts => (repeat (first | exact tsok_nil | refine p_pure ?_ | refine p_op ?_ | refine p_osr ?_ | refine p_mp ?_ | refine p_osx ?_ ?_ | refine p_eq ?_ ?_)); all_goals (first | exact sideM_pure _ | rfl | (congr 2; omega) | (congr 1; congr 1; omega) | trace_state)); (case ghs => (repeat' (first | exact hsok_nil | refine q_dead ?_ | refine q_r ?_ | refine q_pm ?_ ?_ ?_ | refine q_sit ?_ ?_ | refine q_row ?_ ?_ | refine q_row3 ?_ ?_ ?_ ?_ | refine q_idx ?_ ?_ | exact renl_nil | apply renl_cons | exact ren_pure rfl | (apply ren_mp; (first | exact maps_low rfl | exact .inr (List.mem_cons_self ..) | exact .inr (List.mem_cons_of_mem _ (List.mem_cons_self ..)) | exact .inr (List.mem_cons_of_mem _ (List.mem_cons_of_mem _ (List.mem_cons_self ..))) | exact .inr (List.mem_cons_of_mem _ (List.mem_cons_of_mem _ (List.mem_cons_of_mem _ (List.mem_cons_self ..)))))) | refine ren_osq ?_ | refine ren_eq ?_ rfl | with_reducible exact List.Perm.refl _)); all_goals (first | exact sideM_pure _ | rfl | (congr 2; omega) | (congr 1; congr 1; omega) | trace_state)))
    · rw [if_neg (by decide)] at hsofar; cases hsofar
  · obtain rfl : i = 99 := by omega
    cases hsofar
end Go.Proofs.YtkkfilkmkdnboaaDoor
