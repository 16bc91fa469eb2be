import Derived.Test.YtkkfilkmkdnboaaDoorMz23
import Derived.Test.YtkkfilkmkdnboaaDoorMz19
import Derived.Test.YtkkfilkmkdnboaaDoorMz24
import Derived.Test.YtkkfilkmkdnboaaDoorMz25
/- Merges in the abstract layer, 1: sideOf, put. -/
set_option linter.unusedSimpArgs false
set_option linter.unnecessarySimpa false
set_option linter.unusedVariables false
set_option maxHeartbeats 1000000
namespace Go.Proofs.YtkkfilkmkdnboaaDoor
open Go.Ab Go.RowKit
set_option maxRecDepth 10000
attribute [local irreducible] Awp Ops OpsX Wanted Red ExOk Go.Ab.Fin ACall Rz RzL RzRows Enters ResOk RenV RenVL ArgV ArgVL

def thgAV (x : Thg) : AV := .agg [.v (.int .i64 x.kind), .v (str x.text)]
def sideM (t : List Ent) : List (List UInt8 × AV) := t.map fun e => (e.path, thgAV (thgOf e))
theorem sideM_pure (t : List Ent) : ∀ e, e ∈ sideM t → e.2.pure = true := fun e he => by
  obtain ⟨x, _, rfl⟩ := List.mem_map.1 he
  rfl
theorem sideM_keys (t : List Ent) : (sideM t).map (·.1) = t.map Ent.path := by
  unfold sideM
  rw [List.map_map]; rfl
theorem mapPut_new {l : List (List UInt8 × AV)} {s : List UInt8} {x : AV} : s ∉ l.map (·.1) → mapPut l s x = l ++ [(s, x)] := by
  induction l with
  | nil => intro _; rfl
  | cons e l ih =>
    intro h
    rw [List.map_cons, List.mem_cons, not_or] at h
    rw [mapPut_cons, if_neg (fun e' => h.1 e'.symm), ih h.2]; rfl
theorem sideM_succ {t : List Ent} {i : Nat} (h : i < t.length) (hd : (t.map Ent.path).Nodup) : mapPut (sideM (t.take i)) t[i].path (thgAV (thgOf t[i])) = sideM (t.take (i + 1)) := by
  have hn : t[i].path ∉ (sideM (t.take i)).map (·.1) := by
    rw [sideM_keys]
    intro hm
    obtain ⟨x, hx, he⟩ := List.mem_map.1 hm
    obtain ⟨j, hj, rfl⟩ := List.getElem_of_mem hx
    rw [List.getElem_take] at he
    have hj' : j < i := by simp at hj; omega
    have := (List.getElem_inj (h₀ := by simp; omega) (h₁ := by simp; omega) hd (i := j) (j := i)).1 (by simpa using he)
    omega
  rw [mapPut_new hn, List.take_succ_eq_append_getElem h]
  unfold sideM
  rw [List.map_append]; rfl
theorem sideM_get (t : List Ent) (p : Str) : mapGet (sideM t) p = (look t p).map fun e => thgAV (thgOf e) := by
  unfold mapGet sideM look
  rw [List.find?_map, Option.map_map]
  have : ((fun e : List UInt8 × AV => e.1 == p) ∘ fun e : Ent => (e.path, thgAV (thgOf e))) = atP p := by
    funext e
    show (e.path == p) = decide (e.path = p)
    by_cases h : e.path = p <;> simp [h]
  rw [this]
  rfl
theorem side_get (t : List Ent) (p : Str) : (mapGet (sideM t) p).getD (thgAV noT) = thgAV (stT t p) := by
  rw [sideM_get]
  unfold stT
  cases look t p <;> rfl
theorem nodup_of_rising {t : List Ent} (h : rising entLt t = true) : (t.map Ent.path).Nodup := by
  rw [List.Nodup, List.pairwise_map]
  exact (rising_pairE.1 h).imp fun {a b} hab e => by rw [e, bl_irr] at hab; cases hab
/-- What is put into a side, as its entries. -/
theorem side_put {t : List Ent} {e : Ent} (h : rising entLt t = true) : (mapPut (sideM t) e.path (thgAV (thgOf e))).Perm (sideM (putT t e)) := by
  have hn : ((sideM t).map (·.1)).Nodup := by rw [sideM_keys]; exact nodup_of_rising h
  refine (mapPut_perm hn).trans ?_
  obtain ⟨A, M, Z, h1, hp, hA, hZ, hM⟩ := splitE e.path (rising_pairE.1 h)
  rw [putT_split h1 hp hM]
  have hA' : ∀ a, a ∈ A → ¬ a.path = e.path := fun a ha => bl_ne (hA a ha)
  have hZ' : ∀ a, a ∈ Z → ¬ a.path = e.path := fun a ha h2 => bl_ne (hZ a ha) h2.symm
  have keep : ∀ l : List Ent, (∀ a, a ∈ l → ¬ a.path = e.path) → mapDel (sideM l) e.path = sideM l := fun l hl => mapDel_none (by
    rw [sideM_keys]
    intro hm
    obtain ⟨x, hx, he⟩ := List.mem_map.1 hm
    exact hl x hx he)
  have app : ∀ a b : List Ent, sideM (a ++ b) = sideM a ++ sideM b := fun a b => List.map_append ..
  have dapp : ∀ a b : List (List UInt8 × AV), mapDel (a ++ b) e.path = mapDel a e.path ++ mapDel b e.path := fun a b => List.filter_append ..
  have hMd : mapDel (sideM M) e.path = [] := by
    rcases hM with ⟨_, y, rfl, hy⟩ | ⟨_, rfl⟩
    · simp [sideM, mapDel, hy]
    · rfl
  rw [h1, app, app, dapp, dapp, keep A hA', keep Z hZ', hMd, List.nil_append, app, app]
  exact List.perm_middle.symm
theorem side_put2 {t : List Ent} {p : Str} {x : Thg} (h : rising entLt t = true) (hg : GoodT x) (h0 : ¬ x.kind = 0) : (mapPut (sideM t) p (thgAV x)).Perm (sideM (putT t (entT p x))) := by
  have := side_put (e := entT p x) h
  rwa [thg_ent hg h0] at this
theorem zero_thg : ∀ w, (zeroValue 125).run C.P w = .ok (.agg #[.int .i64 0, .string ⟨#[]⟩]) w := Tryd.zeroValue125
theorem zero_M (F : Still) (ρ : Places) : M F ρ (.agg #[.int .i64 0, .string ⟨#[]⟩]) (thgAV noT) := by
  refine .agg _ [.int .i64 0, .string ⟨#[]⟩] _ rfl fun i v x hv hx => ?_
  match i with
  | 0 => simp at hv hx; subst hv; subst hx; exact .v _ _ rfl
  | 1 => simp at hv hx; subst hv; subst hx; exact .v _ _ rfl
  | i + 2 => simp at hv
theorem eqK_thg : eqKs C.P 125 = some [0, 1] := by kernel_rfl
theorem rowEq_thg (a b : Thg) : rowEq [0, 1] [.v (.int .i64 a.kind), .v (str a.text)] [.v (.int .i64 b.kind), .v (str b.text)] = some (decide (a = b)) := by
  obtain ⟨a1, a2⟩ := a
  obtain ⟨b1, b2⟩ := b
  simp only [rowEq, cellEq, str, Thg.mk.injEq, if_true, Option.some.injEq]
  by_cases h1 : a1 = b1 <;> by_cases h2 : a2 = b2 <;> simp [h1, h2]

theorem a_sideOf (t : List Ent) (hd : rising entLt t = true) (hl : t.length ≤ 1000000) : ACall C.P 70 [entAV t] [] (.mp 0) [.mp (sideM t)] := by
  have hn := nodup_of_rising hd
  have hml : (t.map Ent.row).length = t.length := List.length_map ..
  refine acall_intro Tryd.func70 rfl _ Tryd.ntmps70 (Nat.le_of_ble_eq_true rfl) _ Tryd.results70 0 rfl rfl ?_
  repeat' (first | refine walk ?_ | (first | (apply opsx_new; apply ex_makeMap; exact nle rfl)) | ((first | (apply awp_cond; rfl)); all_goals (intro hc; have hp := hc; first | (simp at hp; done) | ((try simp at hp); first | (exfalso; omega) | skip))) | (apply awp_cond_any; rfl))
  all_goals try (exfalso; omega)
  (refine Awp.red (red_ren (τ := ⟨[(3, .mp 0), (7, entAV t), (8, .v (.int .i64 t.length)), (9, .v (.int .i64 ((0 : Nat) : Int)))], [(0, .mp (sideM (t.take 0)))], 1⟩) [(0, 0)] rfl ?gts2 ?ghs2) ?_; (case gts2 => (repeat (first | exact tsok_nil | refine p_pure ?_ | refine p_op ?_ | refine p_osr ?_ | refine p_mp ?_ | refine p_osx ?_ ?_ | refine p_eq ?_ ?_)); all_goals (first | exact sideM_pure _ | (rw [List.length_map]; done) | rfl | exact nofun)); (case ghs2 => (repeat' (first | exact hsok_nil | refine q_dead ?_ | refine q_r ?_ | refine q_pm ?_ ?_ ?_ | refine q_sit ?_ ?_ | refine q_row ?_ ?_ | refine q_row3 ?_ ?_ ?_ ?_ | refine q_idx ?_ ?_ | exact renl_nil | apply renl_cons | exact ren_pure rfl | (apply ren_mp; (first | exact maps_low rfl | exact .inr (List.mem_cons_self ..) | exact .inr (List.mem_cons_of_mem _ (List.mem_cons_self ..)) | exact .inr (List.mem_cons_of_mem _ (List.mem_cons_of_mem _ (List.mem_cons_self ..))) | exact .inr (List.mem_cons_of_mem _ (List.mem_cons_of_mem _ (List.mem_cons_of_mem _ (List.mem_cons_self ..)))))) | refine ren_osq ?_ | refine ren_eq ?_ rfl | with_reducible exact List.Perm.refl _)); all_goals (first | exact sideM_pure _ | (rw [List.length_map]; done) | rfl | exact nofun)))
  refine awp_loop (fun n σ => ∃ i : Nat, i ≤ t.length ∧ n = t.length - i ∧ (True) ∧ σ = ⟨[(3, .mp 0), (7, entAV t), (8, .v (.int .i64 t.length)), (9, .v (.int .i64 (i : Int)))], [(0, .mp (sideM (t.take i)))], 1⟩) t.length ⟨0, Nat.zero_le _, rfl, trivial, rfl⟩ ?_
  rintro n σ ⟨i, hi, rfl, -, rfl⟩
  by_cases hlt : i < t.length
  · have hr := getRow (f := Ent.row) hlt
    have hs := sideM_succ hlt hn
    generalize t[i] = e at *
    obtain ⟨p, f, x, v⟩ := e
    cases f with
    | true =>
      repeat' (first | refine walk ?_ | (first | (apply opsx_store; apply ex_mapUpdate; rfl; rfl; rfl; rfl; rfl; rfl; rfl; rfl)) | ((first | (apply awp_cond; rfl)); all_goals (intro hc; have hp := hc; first | (simp at hp; done) | ((try simp at hp); first | (exfalso; omega) | skip))) | (apply awp_cond_any; rfl))
      all_goals try (exfalso; first | omega | contradiction)
      refine ⟨t.length - (i + 1), _, by omega, red_ren (τ := ⟨[(3, .mp 0), (7, entAV t), (8, .v (.int .i64 t.length)), (9, .v (.int .i64 ((i + 1 : Nat) : Int)))], [(0, .mp (sideM (t.take (i + 1))))], 1⟩) [(0, 0)] rfl ?gts ?ghs, i + 1, by omega, rfl, trivial, rfl⟩; (case gts => (repeat (first | exact tsok_nil | refine p_pure ?_ | refine p_op ?_ | refine p_osr ?_ | refine p_mp ?_ | refine p_osx ?_ ?_ | refine p_eq ?_ ?_)); all_goals (first | exact sideM_pure _ | exact (hs ▸ List.Perm.refl _))); (case ghs => (repeat' (first | exact hsok_nil | refine q_dead ?_ | refine q_r ?_ | refine q_pm ?_ ?_ ?_ | refine q_sit ?_ ?_ | refine q_row ?_ ?_ | refine q_row3 ?_ ?_ ?_ ?_ | refine q_idx ?_ ?_ | exact renl_nil | apply renl_cons | exact ren_pure rfl | (apply ren_mp; (first | exact maps_low rfl | exact .inr (List.mem_cons_self ..) | exact .inr (List.mem_cons_of_mem _ (List.mem_cons_self ..)) | exact .inr (List.mem_cons_of_mem _ (List.mem_cons_of_mem _ (List.mem_cons_self ..))) | exact .inr (List.mem_cons_of_mem _ (List.mem_cons_of_mem _ (List.mem_cons_of_mem _ (List.mem_cons_self ..)))))) | refine ren_osq ?_ | refine ren_eq ?_ rfl | with_reducible exact List.Perm.refl _)); all_goals (first | exact sideM_pure _ | exact (hs ▸ List.Perm.refl _)))
    | false =>
      repeat' (first | refine walk ?_ | (first | (apply opsx_store; apply ex_mapUpdate; rfl; rfl; rfl; rfl; rfl; rfl; rfl; rfl)) | ((first | (apply awp_cond; rfl)); all_goals (intro hc; have hp := hc; first | (simp at hp; done) | ((try simp at hp); first | (exfalso; omega) | skip))) | (apply awp_cond_any; rfl))
      all_goals try (exfalso; first | omega | contradiction)
      refine ⟨t.length - (i + 1), _, by omega, red_ren (τ := ⟨[(3, .mp 0), (7, entAV t), (8, .v (.int .i64 t.length)), (9, .v (.int .i64 ((i + 1 : Nat) : Int)))], [(0, .mp (sideM (t.take (i + 1))))], 1⟩) [(0, 0)] rfl ?gts ?ghs, i + 1, by omega, rfl, trivial, rfl⟩; (case gts => (repeat (first | exact tsok_nil | refine p_pure ?_ | refine p_op ?_ | refine p_osr ?_ | refine p_mp ?_ | refine p_osx ?_ ?_ | refine p_eq ?_ ?_)); all_goals (first | exact sideM_pure _ | exact (hs ▸ List.Perm.refl _))); (case ghs => (repeat' (first | exact hsok_nil | refine q_dead ?_ | refine q_r ?_ | refine q_pm ?_ ?_ ?_ | refine q_sit ?_ ?_ | refine q_row ?_ ?_ | refine q_row3 ?_ ?_ ?_ ?_ | refine q_idx ?_ ?_ | exact renl_nil | apply renl_cons | exact ren_pure rfl | (apply ren_mp; (first | exact maps_low rfl | exact .inr (List.mem_cons_self ..) | exact .inr (List.mem_cons_of_mem _ (List.mem_cons_self ..)) | exact .inr (List.mem_cons_of_mem _ (List.mem_cons_of_mem _ (List.mem_cons_self ..))) | exact .inr (List.mem_cons_of_mem _ (List.mem_cons_of_mem _ (List.mem_cons_of_mem _ (List.mem_cons_self ..)))))) | refine ren_osq ?_ | refine ren_eq ?_ rfl | with_reducible exact List.Perm.refl _)); all_goals (first | exact sideM_pure _ | exact (hs ▸ List.Perm.refl _)))
  obtain rfl : i = t.length := by omega
  repeat' (first | refine walk ?_ | (first | (apply opsx_store; apply ex_mapUpdate; rfl; rfl; rfl; rfl; rfl; rfl; rfl; rfl)) | ((first | (apply awp_cond; rfl)); all_goals (intro hc; have hp := hc; first | (simp at hp; done) | ((try simp at hp); first | (exfalso; omega) | skip))) | (apply awp_cond_any; rfl))
  all_goals try (exfalso; omega)
  rw [List.take_length]
  (apply fin_ownr (rs := [.tmp 2]) [(0, 0)] 1; (case hr => (repeat (first | exact resok_nil | (apply resok_tmp; rfl) | (apply resok_cell; rfl; rfl; rfl; rfl; rfl)))); (case hL => rfl); (case hh => (repeat' (first | exact hsok_nil | refine q_dead ?_ | refine q_r ?_ | refine q_pm ?_ ?_ ?_ | refine q_sit ?_ ?_ | refine q_row ?_ ?_ | refine q_row3 ?_ ?_ ?_ ?_ | refine q_idx ?_ ?_ | exact renl_nil | apply renl_cons | exact ren_pure rfl | (apply ren_mp; (first | exact maps_low rfl | exact .inr (List.mem_cons_self ..) | exact .inr (List.mem_cons_of_mem _ (List.mem_cons_self ..)) | exact .inr (List.mem_cons_of_mem _ (List.mem_cons_of_mem _ (List.mem_cons_self ..))) | exact .inr (List.mem_cons_of_mem _ (List.mem_cons_of_mem _ (List.mem_cons_of_mem _ (List.mem_cons_self ..)))))) | refine ren_osq ?_ | refine ren_eq ?_ rfl | with_reducible exact List.Perm.refl _)); all_goals (first | exact sideM_pure _ | trace_state)); (case hi => exact rfl); (case hz => first | rfl | (simp [pack, AV.ren, AV.ren.renL, lookN, getT, enumT]; done) | (simp [pack, AV.ren, AV.ren.renL, lookN, getT, enumT, *]; done) | trace_state))
noncomputable def C6 : Cx := { C with nh := 6 }
theorem a_sput (l : List (List UInt8 × AV)) (p : Str) (x : Thg) (hp : ∀ e, e ∈ l → e.2.pure = true) : ACall C1.P 94 [.mp 0, .v (str p), thgAV x] [.mp l] (.tup []) [.mp (if x.kind = 0 then mapDel l p else mapPut l p (thgAV x))] := by
  have hq : ∀ e, e ∈ mapDel l p → e.2.pure = true := fun e he => hp e (List.mem_filter.1 he).1
  by_cases h0 : x.kind = 0
  · rw [if_pos h0]
    refine acall_intro (C := C1) Tryd.func94 rfl _ Tryd.ntmps94 (Nat.le_of_ble_eq_true rfl) _ Tryd.results94 1 rfl rfl ?_
    repeat' (first | refine walk ?_ | (first | (apply opsx_store; apply ex_mapUpdate; rfl; rfl; rfl; rfl; rfl; rfl; rfl; rfl) | (apply opsx_store; apply ex_delete; (case hm => rfl); (case hn => rfl); (case hk => rfl); (case htys => rfl); (case hT => rfl); (case he => rfl); (case hK => rfl); (case hks => rfl))) | ((first | (apply ops_split_t; rfl; rfl; exact nle rfl) | (apply ops_split_f; rfl; rfl; exact nle rfl) | (apply awp_cond; rfl)); all_goals (intro hc; have hp := hc; first | (simp at hp; done) | ((try simp at hp); first | (exfalso; omega) | skip))) | (apply awp_cond_any; rfl))
    all_goals try (exfalso; first | omega | contradiction)
    (apply fin_ownr (rs := ([] : List ResultVar)) [] 1; (case hr => (repeat (first | exact resok_nil | (apply resok_tmp; rfl) | (apply resok_cell; rfl; rfl; rfl; rfl; rfl)))); (case hL => rfl); (case hh => (repeat' (first | exact hsok_nil | refine q_dead ?_ | refine q_r ?_ | refine q_pm ?_ ?_ ?_ | refine q_sit ?_ ?_ | refine q_row ?_ ?_ | refine q_row3 ?_ ?_ ?_ ?_ | refine q_idx ?_ ?_ | exact renl_nil | apply renl_cons | exact ren_pure rfl | (apply ren_mp; (first | exact maps_low rfl | exact .inr (List.mem_cons_self ..) | exact .inr (List.mem_cons_of_mem _ (List.mem_cons_self ..)) | exact .inr (List.mem_cons_of_mem _ (List.mem_cons_of_mem _ (List.mem_cons_self ..))) | exact .inr (List.mem_cons_of_mem _ (List.mem_cons_of_mem _ (List.mem_cons_of_mem _ (List.mem_cons_self ..)))))) | refine ren_osq ?_ | refine ren_eq ?_ rfl | with_reducible exact List.Perm.refl _)); all_goals (first | assumption | exact List.Perm.refl _ | trace_state)); (case hi => exact rfl); (case hz => first | rfl | (simp [pack, AV.ren, AV.ren.renL, lookN, getT, enumT]; done) | (simp [pack, AV.ren, AV.ren.renL, lookN, getT, enumT, *]; done) | trace_state))
  · rw [if_neg h0]
    have hr : ∀ e, e ∈ mapPut l p (thgAV x) → e.2.pure = true := fun e he => by
      unfold mapPut at he
      split at he
      · rcases List.mem_or_eq_of_mem_set he with h | rfl
        · exact hp e h
        · rfl
      · rcases List.mem_append.1 he with h | h
        · exact hp e h
        · rw [List.mem_singleton.1 h]; rfl
    refine acall_intro (C := C1) Tryd.func94 rfl _ Tryd.ntmps94 (Nat.le_of_ble_eq_true rfl) _ Tryd.results94 1 rfl rfl ?_
    repeat' (first | refine walk ?_ | (first | (apply opsx_store; apply ex_mapUpdate; rfl; rfl; rfl; rfl; rfl; rfl; rfl; rfl) | (apply opsx_store; apply ex_delete; (case hm => rfl); (case hn => rfl); (case hk => rfl); (case htys => rfl); (case hT => rfl); (case he => rfl); (case hK => rfl); (case hks => rfl))) | ((first | (apply ops_split_t; rfl; rfl; exact nle rfl) | (apply ops_split_f; rfl; rfl; exact nle rfl) | (apply awp_cond; rfl)); all_goals (intro hc; have hp := hc; first | (simp at hp; done) | ((try simp at hp); first | (exfalso; omega) | skip))) | (apply awp_cond_any; rfl))
    all_goals try (exfalso; first | omega | contradiction)
    (apply fin_ownr (rs := ([] : List ResultVar)) [] 1; (case hr => (repeat (first | exact resok_nil | (apply resok_tmp; rfl) | (apply resok_cell; rfl; rfl; rfl; rfl; rfl)))); (case hL => rfl); (case hh => (repeat' (first | exact hsok_nil | refine q_dead ?_ | refine q_r ?_ | refine q_pm ?_ ?_ ?_ | refine q_sit ?_ ?_ | refine q_row ?_ ?_ | refine q_row3 ?_ ?_ ?_ ?_ | refine q_idx ?_ ?_ | exact renl_nil | apply renl_cons | exact ren_pure rfl | (apply ren_mp; (first | exact maps_low rfl | exact .inr (List.mem_cons_self ..) | exact .inr (List.mem_cons_of_mem _ (List.mem_cons_self ..)) | exact .inr (List.mem_cons_of_mem _ (List.mem_cons_of_mem _ (List.mem_cons_self ..))) | exact .inr (List.mem_cons_of_mem _ (List.mem_cons_of_mem _ (List.mem_cons_of_mem _ (List.mem_cons_self ..)))))) | refine ren_osq ?_ | refine ren_eq ?_ rfl | with_reducible exact List.Perm.refl _)); all_goals (first | assumption | exact List.Perm.refl _ | trace_state)); (case hi => exact rfl); (case hz => first | rfl | (simp [pack, AV.ren, AV.ren.renL, lookN, getT, enumT]; done) | (simp [pack, AV.ren, AV.ren.renL, lookN, getT, enumT, *]; done) | trace_state))
end Go.Proofs.YtkkfilkmkdnboaaDoor
