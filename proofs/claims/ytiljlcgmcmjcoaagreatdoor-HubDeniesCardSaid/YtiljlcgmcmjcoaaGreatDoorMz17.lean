import Derived.Test.YtiljlcgmcmjcoaaGreatDoorMz16
/- Grants in the abstract layer, 11: Give behind set; what must be in any case. -/
set_option linter.unusedSimpArgs false
set_option maxHeartbeats 1000000
namespace Go.Proofs.YtiljlcgmcmjcoaaGreatDoor
open Go.Ab Go.RowKit
set_option maxRecDepth 10000
attribute [local irreducible] Awp Ops OpsX Wanted Red ExOk Go.Ab.Fin ACall Rz RzL RzRows Enters ResOk RenV RenVL ArgV ArgVL

def giveErr2 (L : List Gra) (f : Str) : Int := if L.any (ownIn f) then (if 60 < L.length then 2 else 0) else 4
def giveL (L : List Gra) (f : Str) : List Gra := if giveErr2 L f = 0 then L else []
theorem g2_four {L : List Gra} {f : Str} (h : ∀ x, x ∈ L → ownIn f x = false) : giveErr2 L f = 4 ∧ giveL L f = [] := by
  have h1 : L.any (ownIn f) = false := List.any_eq_false.2 fun x hx => by rw [h x hx]; simp
  have h2 : giveErr2 L f = 4 := by simp [giveErr2, h1]
  exact ⟨h2, by simp [giveL, h2]⟩
theorem g2_two {L : List Gra} {f : Str} (h : ∃ x, x ∈ L ∧ ownIn f x = true) (hl : (60 : Int) < (L.length : Int)) : giveErr2 L f = 2 ∧ giveL L f = [] := by
  have h1 : L.any (ownIn f) = true := List.any_eq_true.2 h
  have h3 : 60 < L.length := by omega
  have h2 : giveErr2 L f = 2 := by simp [giveErr2, h1, h3]
  exact ⟨h2, by simp [giveL, h2]⟩
theorem g2_zero {L : List Gra} {f : Str} (h : ∃ x, x ∈ L ∧ ownIn f x = true) (hl : (L.length : Int) ≤ 60) : giveErr2 L f = 0 ∧ giveL L f = L := by
  have h1 : L.any (ownIn f) = true := List.any_eq_true.2 h
  have h3 : ¬ 60 < L.length := by omega
  have h2 : giveErr2 L f = 0 := by simp [giveErr2, h1, h3]
  exact ⟨h2, by simp [giveL, h2]⟩
theorem a_give_ok (l : List Gra) (hl : GBig l) (f b w : Str) (r : Int) (hf : f.length ≤ 140737488355328) (hb : b.length ≤ 140737488355328) (hw : w.length ≤ 140737488355328) (he : giveErr1 l f b w r = 0) (L : List Gra) (hL : L.length ≤ 1000000)
    (hset : ACall C.P 104 [graAV l, .v (str f), .v (str w), .v (.int .i64 r)] [] (.os 0 0 L.length) [.own false 3 (L.map Gra.row)]) :
    AFn C.P 61 [graAV l, .v (str f), .v (str b), .v (str w), .v (.int .i64 r)] (.tup [graAV (giveL L f), .v (.int .i64 (giveErr2 L f))]) := by
  have hch := a_gcheck l hl
  obtain ⟨h0, hn, hr, ho, hw0⟩ := ge_inv he
  rw [h0] at hch
  have hlen := graErr_len h0
  have hri := graErr_rise h0
  have hnm := a_names [f, b, w] (by simp) (by simp; exact ⟨hf, hb, hw⟩)
  simp only [List.map, List.all_cons, List.all_nil, Bool.and_true, hn.1, hn.2.1, hn.2.2, Bool.and_self] at hnm
  have ho1 := a_of l f b (by omega) hri
  have ho2 := a_of l f w (by omega) hri
  have hcon := a_containsG (ownIn f) 105 (isFn_of Tryz.func105 rfl rfl) [.fp [[.v (str f)]] 0 0] rfl L hL (fun g _ => a_giveC g f)
  refine acall_intro Tryz.func61 rfl _ Tryz.ntmps61 (Nat.le_of_ble_eq_true rfl) _ Tryz.results61 0 rfl rfl ?_
  (repeat apply awp_seq); apply awp_region; (repeat' (first | apply ops_free | refine o_mv ?_ | refine o_as ?_ | refine o_ld ?_ | refine o_bi ?_ | refine o_pk ?_ | refine o_ln ?_ | refine o_no ?_ | refine o_fn ?_ | refine o_bx ?_ | (first | fail) | refine r_nil ?_ | refine g_on_t ?_ | refine g_on_f ?_ | refine g_off_t ?_ | refine g_off_f ?_ | refine g_unw ?_ | refine g_yes ?_ | refine g_no_t ?_ | refine g_no_f ?_ | ((first | refine g_sp_t ?_ ?_ | refine g_sp_f ?_ ?_); all_goals (intro hc; have hp := hc; first | (simp at hp; done) | ((try simp at hp); first | (exfalso; omega) | skip))))); show Awp _ _ _ _ _
  (refine Awp.red (red_freeze 0 rfl ?_) ?_; (intro row hrow; obtain rfl := List.mem_singleton.1 hrow; rfl); refine Awp.red (red_fp 6 0 rfl rfl (Nat.le_of_ble_eq_true rfl)) ?_)
  repeat' (first | refine walk ?_ | (first | (apply to_call Tryz.func39 rfl rfl; intro hIsFn; refine o_callf hIsFn (hch ..) ?_; skip) | (apply to_call Tryz.func62 rfl rfl; intro hIsFn; refine o_callp hIsFn (hnm ..) ?_) | (refine o_fzl ?_) | (apply to_call Tryz.func63 rfl rfl; intro hIsFn; refine o_callf hIsFn (ho1 ..) ?_; skip) | (apply to_call Tryz.func63 rfl rfl; intro hIsFn; refine o_callf hIsFn (ho2 ..) ?_; skip) | (apply to_call Tryz.func104 rfl rfl; intro hIsFn; refine o_callo ([]) hIsFn (hset ..) ?_) | (apply opsx_val; apply ex_call ([1]); exact isFn_of Tryz.func102 rfl rfl; exact hcon; (case hz => exact rzl_cons (rz_os_pure rfl (by simp) (pures_map fun _ => rfl)) (rzl_cons (rz_clo_pure rfl) rzl_nil)); (case hfl => rfl); (case hN => exact nle rfl))) | ((first | (apply ops_split_t; rfl; rfl; exact nle rfl) | (apply ops_split_f; rfl; rfl; exact nle rfl) | (apply awp_cond; rfl)); all_goals (intro hc; have hp := hc; first | (simp at hp; done) | ((try simp at hp); first | (exfalso; omega) | skip))) | (apply awp_cond_any; rfl))
  all_goals try (exfalso; omega)
  all_goals try (exfalso; rcases ho with h | ⟨h, _⟩ <;> contradiction)
  all_goals first
    | (refine (fun (h : giveErr2 L f = 4 ∧ giveL L f = []) => ?_) (g2_four (L := L) (f := f) ?_); rotate_left; assumption
       rw [h.1, h.2]
       (refine f_pure (rs := [.tmp 10, .tmp 11]) ?_; (repeat' (first | exact rzl_nil | apply rzl_cons | exact rz_pure rfl | exact rz_ex | exact z_os | apply rz_agg | apply rz_tup | apply rz_clo | apply rz_int | apply rz_bool | apply rz_str | refine z_eq ?_ | apply rz_sl)); all_goals skip))
    | (refine (fun (h : giveErr2 L f = 2 ∧ giveL L f = []) => ?_) (g2_two (L := L) (f := f) ?_ ?_); rotate_left; assumption; assumption
       rw [h.1, h.2]
       (refine f_pure (rs := [.tmp 10, .tmp 11]) ?_; (repeat' (first | exact rzl_nil | apply rzl_cons | exact rz_pure rfl | exact rz_ex | exact z_os | apply rz_agg | apply rz_tup | apply rz_clo | apply rz_int | apply rz_bool | apply rz_str | refine z_eq ?_ | apply rz_sl)); all_goals skip))
    | (refine (fun (h : giveErr2 L f = 0 ∧ giveL L f = L) => ?_) (g2_zero (L := L) (f := f) ?_ ?_); rotate_left; assumption; assumption
       rw [h.1, h.2]
       (refine f_pure (rs := [.tmp 10, .tmp 11]) ?_; (repeat' (first | exact rzl_nil | apply rzl_cons | exact rz_pure rfl | exact rz_ex | exact z_os | apply rz_agg | apply rz_tup | apply rz_clo | apply rz_int | apply rz_bool | apply rz_str | refine z_eq ?_ | apply rz_sl)); all_goals skip))

-- What must be in any case.
def gF : Str := [102]
def gA : Str := [97]
def gB : Str := [98]
def gOwner : Gra := ⟨gF, gA, 3⟩
theorem gbig_one (g : Gra) (h : g.small) : GBig [g] := ⟨fun x hx => by rw [List.mem_singleton.1 hx]; exact h, by simp⟩
theorem a_gbegun : AFn C.P 23 [] (.v (.bool true)) := by
  have hset1 := a_setEnd [] gF gA 3 (by simp) rfl (by decide) rfl rfl
  have hmk := a_make_ok [] ⟨fun x hx => by simp at hx, by simp⟩ gF gA (by decide) (by decide) rfl [gOwner] hset1
  have hset2 := a_setEnd [gOwner] gF gB 1 (by simp) rfl (by decide) rfl rfl
  have hgv := a_give_ok [gOwner] (gbig_one _ ⟨by decide, by decide⟩) gF gA gB 1 (by decide) (by decide) (by decide) rfl [gOwner, ⟨gF, gB, 1⟩] (by decide) hset2
  refine acall_intro Tryz.func23 rfl _ Tryz.ntmps23 (Nat.le_of_ble_eq_true rfl) _ Tryz.results23 0 rfl rfl ?_
  repeat' (first | refine walk ?_ | (first | (apply to_call Tryz.func60 rfl rfl; intro hIsFn; refine o_callp hIsFn (hmk ..) ?_) | (apply to_call Tryz.func61 rfl rfl; intro hIsFn; refine o_callp hIsFn (hgv ..) ?_)) | ((first | (apply ops_split_t; rfl; rfl; exact nle rfl) | (apply ops_split_f; rfl; rfl; exact nle rfl) | (apply awp_cond; rfl)); all_goals (intro hc; have hp := hc; first | (simp at hp; done) | ((try simp at hp); first | (exfalso; omega) | skip))) | (apply awp_cond_any; rfl))
  apply fin_bool
  rfl
  rfl
end Go.Proofs.YtiljlcgmcmjcoaaGreatDoor

/- Grants in the abstract layer, 12: Right, Who, WhoOf, SameTexts. -/
set_option linter.unusedSimpArgs false
set_option maxHeartbeats 1000000
namespace Go.Proofs.YtiljlcgmcmjcoaaGreatDoor
open Go.Ab Go.RowKit
set_option maxRecDepth 10000
attribute [local irreducible] Awp Ops OpsX Wanted Red ExOk Go.Ab.Fin ACall Rz RzL RzRows Enters ResOk RenV RenVL ArgV ArgVL

def rightErr (l : List Gra) (f w : Str) : Int := if graErr l = 0 then (if isName f && isName w then 0 else 1) else graErr l
def rightVal (l : List Gra) (f w : Str) : Int := if rightErr l f w = 0 then rightG l f w else 0
theorem graErr_len2 {l : List Gra} (h : graErr l = 0) : l.length ≤ 60 := by
  unfold graErr at h
  split at h
  · omega
  · omega
theorem graErr_rise2 {l : List Gra} (h : graErr l = 0) : rising graLt l = true := by
  unfold graErr at h
  split at h
  · omega
  · split at h
    · split at h
      · assumption
      · omega
    · exact absurd h (by assumption)
theorem a_right (l : List Gra) (hl : GBig l) (f w : Str) (hf : f.length ≤ 140737488355328) (hw : w.length ≤ 140737488355328) :
    AFn C.P 24 [graAV l, .v (str f), .v (str w)] (.tup [.v (.int .i64 (rightVal l f w)), .v (.int .i64 (rightErr l f w))]) := by
  have hch := a_gcheck l hl
  by_cases h0 : graErr l = 0
  · rw [h0] at hch
    have hlen := graErr_len2 h0
    have hnm := a_names [f, w] (by simp) (by simp; exact ⟨hf, hw⟩)
    simp only [List.map, List.all_cons, List.all_nil, Bool.and_true] at hnm
    have ho := a_of l f w (by omega) (graErr_rise2 h0)
    cases hb : isName f && isName w with
    | true =>
      rw [hb] at hnm
      rw [show rightVal l f w = rightG l f w from by simp [rightVal, rightErr, h0, hb], show rightErr l f w = 0 from by simp [rightErr, h0, hb]]
      refine acall_intro Tryz.func24 rfl _ Tryz.ntmps24 (Nat.le_of_ble_eq_true rfl) _ Tryz.results24 0 rfl rfl ?_
      repeat' (first | refine walk ?_ | (first | (apply to_call Tryz.func39 rfl rfl; intro hIsFn; refine o_callf hIsFn (hch ..) ?_; skip) | (apply to_call Tryz.func62 rfl rfl; intro hIsFn; refine o_callp hIsFn (hnm ..) ?_) | (refine o_fzl ?_) | (apply to_call Tryz.func63 rfl rfl; intro hIsFn; refine o_callf hIsFn (ho ..) ?_; skip)) | ((first | (apply awp_cond; rfl)); all_goals (intro hc; have hp := hc; first | (simp at hp; done) | ((try simp at hp); first | (exfalso; omega) | skip))) | (apply awp_cond_any; rfl))
      (refine f_pure (rs := [.tmp 6, .tmp 7]) ?_; (repeat' (first | exact rzl_nil | apply rzl_cons | exact rz_pure rfl | exact rz_ex | exact z_os | apply rz_agg | apply rz_tup | apply rz_clo | apply rz_int | apply rz_bool | apply rz_str | refine z_eq ?_ | apply rz_sl)); all_goals skip)
    | false =>
      rw [hb] at hnm
      rw [show rightVal l f w = 0 from by simp [rightVal, rightErr, h0, hb], show rightErr l f w = 1 from by simp [rightErr, h0, hb]]
      refine acall_intro Tryz.func24 rfl _ Tryz.ntmps24 (Nat.le_of_ble_eq_true rfl) _ Tryz.results24 0 rfl rfl ?_
      repeat' (first | refine walk ?_ | (first | (apply to_call Tryz.func39 rfl rfl; intro hIsFn; refine o_callf hIsFn (hch ..) ?_; skip) | (apply to_call Tryz.func62 rfl rfl; intro hIsFn; refine o_callp hIsFn (hnm ..) ?_) | (refine o_fzl ?_) | (apply to_call Tryz.func63 rfl rfl; intro hIsFn; refine o_callf hIsFn (ho ..) ?_; skip)) | ((first | (apply awp_cond; rfl)); all_goals (intro hc; have hp := hc; first | (simp at hp; done) | ((try simp at hp); first | (exfalso; omega) | skip))) | (apply awp_cond_any; rfl))
      (refine f_pure (rs := [.tmp 6, .tmp 7]) ?_; (repeat' (first | exact rzl_nil | apply rzl_cons | exact rz_pure rfl | exact rz_ex | exact z_os | apply rz_agg | apply rz_tup | apply rz_clo | apply rz_int | apply rz_bool | apply rz_str | refine z_eq ?_ | apply rz_sl)); all_goals skip)
  · rw [show rightVal l f w = 0 from by simp [rightVal, rightErr, h0], show rightErr l f w = graErr l from by simp [rightErr, h0]]
    refine acall_intro Tryz.func24 rfl _ Tryz.ntmps24 (Nat.le_of_ble_eq_true rfl) _ Tryz.results24 0 rfl rfl ?_
    repeat' (first | refine walk ?_ | (first | (apply to_call Tryz.func39 rfl rfl; intro hIsFn; refine o_callf hIsFn (hch ..) ?_; skip)) | ((first | (apply awp_cond; rfl)); all_goals (intro hc; have hp := hc; first | (simp at hp; done) | ((try simp at hp); first | (exfalso; omega) | skip))) | (apply awp_cond_any; rfl))
    all_goals try (exfalso; simp_all; done)
    (refine f_pure (rs := [.tmp 6, .tmp 7]) ?_; (repeat' (first | exact rzl_nil | apply rzl_cons | exact rz_pure rfl | exact rz_ex | exact z_os | apply rz_agg | apply rz_tup | apply rz_clo | apply rz_int | apply rz_bool | apply rz_str | refine z_eq ?_ | apply rz_sl)); all_goals skip)

def whoL (l : List Gra) (f : Str) : List Str := (l.filter (inFolder f)).map (·.who)
@[simp] theorem whoL_nil (f : Str) : whoL [] f = [] := rfl
end Go.Proofs.YtiljlcgmcmjcoaaGreatDoor

/- Grants, plain: what set makes; its laws. -/
set_option linter.unusedSimpArgs false
namespace Go.Proofs.YtiljlcgmcmjcoaaGreatDoor
open Go.Ab Go.RowKit

/-- What set makes of grants that are right. -/
def setG (l : List Gra) (f w : Str) (r : Int) : List Gra :=
  l.take (posG l ⟨f, w, 0⟩) ++ ((if r = 0 then [] else [⟨f, w, r⟩]) ++ l.drop (posG l ⟨f, w, 0⟩ + if hitG l ⟨f, w, 0⟩ = true then 1 else 0))
theorem sameKey_iff {k x : Gra} : sameKey k x = true ↔ x.folder = k.folder ∧ x.who = k.who := by simp [sameKey]
theorem sameKey_lt {k x : Gra} (h : graLt x k = true) : sameKey k x = false := by
  cases e : sameKey k x
  · rfl
  · have := (graLt_key (c := x) (sameKey_iff.1 e)).1
    rw [← this, graLt_irr] at h; cases h
theorem sameKey_gt {k x : Gra} (h : graLt k x = true) : sameKey k x = false := by
  cases e : sameKey k x
  · rfl
  · have := (graLt_key (c := x) (sameKey_iff.1 e)).2
    rw [← this, graLt_irr] at h; cases h
theorem graLt_tri {a b : Gra} (h1 : graLt a b = false) (h2 : sameKey b a = false) : graLt b a = true := by
  by_cases h : graCmp a b = 0
  · have := (graCmp_zero a b).1 h
    rw [sameKey_iff.2 ⟨this.1, this.2⟩] at h2; cases h2
  · by_cases h' : graCmp a b < 0
    · rw [(graCmp_neg a b).1 h'] at h1; cases h1
    · exact (graCmp_pos a b).1 (by omega)
theorem rising_pairG : ∀ {l : List Gra}, rising graLt l = true ↔ l.Pairwise (fun a b => graLt a b = true) := by
  intro l
  rw [List.pairwise_iff_getElem]
  constructor
  · intro h i j hi hj hij
    exact rising_lt h i j hi hj hij
  · intro h
    exact rising_iff.2 fun k hk => h k (k + 1) (by omega) hk (by omega)

/-- Grants that are right, parted at a place. -/
theorem splitG (k : Gra) : ∀ {l : List Gra}, l.Pairwise (fun a b => graLt a b = true) → ∃ A M Z, l = A ++ (M ++ Z) ∧ posG l k = A.length ∧ (∀ a, a ∈ A → graLt a k = true) ∧ (∀ z, z ∈ Z → graLt k z = true) ∧
    ((hitG l k = true ∧ ∃ x, M = [x] ∧ sameKey k x = true) ∨ (hitG l k = false ∧ M = []))
  | [], _ => ⟨[], [], [], rfl, rfl, nofun, nofun, .inr ⟨rfl, rfl⟩⟩
  | x :: l, h => by
    obtain ⟨h1, h2⟩ := List.pairwise_cons.1 h
    by_cases hx : graLt x k = true
    · obtain ⟨A, M, Z, rfl, hp, hA, hZ, hM⟩ := splitG k h2
      have hp' : posG (x :: (A ++ (M ++ Z))) k = A.length + 1 := by
        simp only [posG, List.takeWhile_cons, hx, if_true, List.length_cons] at hp ⊢; omega
      refine ⟨x :: A, M, Z, rfl, hp', fun a ha => ?_, hZ, ?_⟩
      · rcases List.mem_cons.1 ha with rfl | ha
        · exact hx
        · exact hA a ha
      · have : hitG (x :: (A ++ (M ++ Z))) k = hitG (A ++ (M ++ Z)) k := by
          unfold hitG
          rw [hp', hp, List.getElem?_cons_succ]
        rw [this]; exact hM
    · have hx : graLt x k = false := by simpa using hx
      have hp : posG (x :: l) k = 0 := by simp [posG, List.takeWhile_cons, hx]
      have hh : hitG (x :: l) k = decide (graCmp x k = 0) := by
        unfold hitG; rw [hp]; rfl
      cases hk : sameKey k x with
      | true =>
        refine ⟨[], [x], l, rfl, hp, nofun, fun z hz => ?_, .inl ⟨?_, x, rfl, hk⟩⟩
        · rw [← (graLt_key (c := z) (sameKey_iff.1 hk)).2]; exact h1 z hz
        · rw [hh, decide_eq_true_iff, graCmp_zero]; exact sameKey_iff.1 hk
      | false =>
        have hg := graLt_tri hx hk
        refine ⟨[], [], x :: l, rfl, hp, nofun, fun z hz => ?_, .inr ⟨?_, rfl⟩⟩
        · rcases List.mem_cons.1 hz with rfl | hz
          · exact hg
          · exact graLt_trans hg (h1 z hz)
        · rw [hh, decide_eq_false_iff_not, graCmp_zero]
          intro e
          rw [sameKey_iff.2 e] at hk; cases hk

theorem setG_split {l A M Z : List Gra} {f w : Str} {r : Int} (h : l = A ++ (M ++ Z)) (hp : posG l ⟨f, w, 0⟩ = A.length) (hM : (hitG l ⟨f, w, 0⟩ = true ∧ ∃ x, M = [x] ∧ sameKey ⟨f, w, 0⟩ x = true) ∨ (hitG l ⟨f, w, 0⟩ = false ∧ M = [])) :
    setG l f w r = A ++ ((if r = 0 then [] else [⟨f, w, r⟩]) ++ Z) := by
  unfold setG
  rw [hp]
  have h1 : l.take A.length = A := by rw [h]; simp
  rw [h1]
  rcases hM with ⟨hh, x, rfl, _⟩ | ⟨hh, rfl⟩
  · simp only [hh, if_true]; rw [h]; simp
  · simp only [hh, Bool.false_eq_true, if_false]; rw [h]; simp

theorem setG_rising {l : List Gra} {f w : Str} {r : Int} (hs : rising graLt l = true) : rising graLt (setG l f w r) = true := by
  have hl := rising_pairG.1 hs
  obtain ⟨A, M, Z, h, hp, hA, hZ, hM⟩ := splitG ⟨f, w, 0⟩ hl
  rw [setG_split h hp hM]
  refine rising_pairG.2 ?_
  have hsub : (A ++ Z).Sublist l := by
    rw [h]; exact List.Sublist.append_left (List.sublist_append_right _ _) _
  have hAZ := List.Pairwise.sublist hsub hl
  rw [List.pairwise_append] at hAZ
  have hkey : ∀ c, graLt c ⟨f, w, r⟩ = graLt c ⟨f, w, 0⟩ ∧ graLt ⟨f, w, r⟩ c = graLt ⟨f, w, 0⟩ c := fun c => graLt_key ⟨rfl, rfl⟩
  by_cases h0 : r = 0
  · simp only [h0, if_true, List.nil_append]
    rw [List.pairwise_append]; exact hAZ
  · simp only [h0, if_false]
    rw [List.pairwise_append]
    refine ⟨hAZ.1, ?_, fun a ha b hb => ?_⟩
    · rw [List.cons_append, List.nil_append, List.pairwise_cons]
      exact ⟨fun z hz => by rw [(hkey z).2]; exact hZ z hz, hAZ.2.1⟩
    · rw [List.cons_append, List.nil_append, List.mem_cons] at hb
      rcases hb with rfl | hb
      · rw [(hkey a).1]; exact hA a ha
      · exact hAZ.2.2 a ha b hb
theorem rightG_app (A B : List Gra) (f w : Str) (hA : ∀ a, a ∈ A → sameKey ⟨f, w, 0⟩ a = false) : rightG (A ++ B) f w = rightG B f w := by
  have : A.find? (sameKey ⟨f, w, 0⟩) = none := List.find?_eq_none.2 fun a ha => by rw [hA a ha]; simp
  unfold rightG
  rw [List.find?_append, this, Option.none_or]
theorem rightG_none {A : List Gra} {f w : Str} (hA : ∀ a, a ∈ A → sameKey ⟨f, w, 0⟩ a = false) : rightG A f w = 0 := by
  have : A.find? (sameKey ⟨f, w, 0⟩) = none := List.find?_eq_none.2 fun a ha => by rw [hA a ha]; simp
  unfold rightG
  rw [this]
/-- Who is given a right has it. -/
theorem rightG_set {l : List Gra} {f w : Str} {r : Int} (hs : rising graLt l = true) : rightG (setG l f w r) f w = r := by
  obtain ⟨A, M, Z, h, hp, hA, hZ, hM⟩ := splitG ⟨f, w, 0⟩ (rising_pairG.1 hs)
  rw [setG_split h hp hM, rightG_app _ _ _ _ fun a ha => sameKey_lt (hA a ha)]
  by_cases h0 : r = 0
  · simp only [h0, if_true, List.nil_append]
    exact rightG_none fun z hz => sameKey_gt (hZ z hz)
  · simp [h0, rightG, sameKey]
theorem setG_mem {l : List Gra} {f w : Str} {r : Int} (hs : rising graLt l = true) {x : Gra} (hx : x ∈ setG l f w r) : x ∈ l ∨ (r ≠ 0 ∧ x = ⟨f, w, r⟩) := by
  obtain ⟨A, M, Z, h, hp, hA, hZ, hM⟩ := splitG ⟨f, w, 0⟩ (rising_pairG.1 hs)
  rw [setG_split h hp hM] at hx
  rw [h]
  by_cases h0 : r = 0
  · simp only [h0, if_true, List.nil_append, List.mem_append] at hx ⊢
    rcases hx with hx | hx
    · exact .inl (.inl hx)
    · exact .inl (.inr (.inr hx))
  · simp only [h0, if_false, List.mem_append, List.mem_singleton, List.mem_cons, List.not_mem_nil, or_false] at hx ⊢
    rcases hx with hx | hx | hx
    · exact .inl (.inl hx)
    · exact .inr ⟨h0, hx⟩
    · exact .inl (.inr (.inr hx))
theorem mem_setG {l : List Gra} {f w : Str} {r : Int} (hs : rising graLt l = true) {x : Gra} (hx : x ∈ l) (hk : sameKey ⟨f, w, 0⟩ x = false) : x ∈ setG l f w r := by
  obtain ⟨A, M, Z, h, hp, hA, hZ, hM⟩ := splitG ⟨f, w, 0⟩ (rising_pairG.1 hs)
  rw [setG_split h hp hM]
  rw [h] at hx
  simp only [List.mem_append] at hx ⊢
  rcases hx with hx | hx | hx
  · exact .inl hx
  · rcases hM with ⟨_, y, rfl, hy⟩ | ⟨_, rfl⟩
    · rw [List.mem_singleton.1 hx, hy] at hk; cases hk
    · cases hx
  · exact .inr (.inr hx)
theorem ownIn_iff {f : Str} {x : Gra} : ownIn f x = true ↔ x.folder = f ∧ x.right = 3 := by simp [ownIn]
theorem setG_owned {l : List Gra} {f w : Str} {r : Int} (hs : rising graLt l = true) (ho : ownedB l = true) (hf : (setG l f w r).any (ownIn f) = true) : ownedB (setG l f w r) = true := by
  refine List.all_eq_true.2 fun x hx => ?_
  by_cases e : x.folder = f
  · obtain ⟨y, hy, h1⟩ := List.any_eq_true.1 hf
    have h1 := ownIn_iff.1 h1
    exact List.any_eq_true.2 ⟨y, hy, by simp [h1.1, h1.2, e]⟩
  · rcases setG_mem hs hx with h | ⟨_, rfl⟩
    · obtain ⟨y, hy, h1⟩ := List.any_eq_true.1 (List.all_eq_true.1 ho x h)
      simp only [Bool.and_eq_true, decide_eq_true_eq] at h1
      have hk : sameKey ⟨f, w, 0⟩ y = false := by
        cases e' : sameKey ⟨f, w, 0⟩ y
        · rfl
        · exact absurd (h1.1.symm.trans (sameKey_iff.1 e').1) e
      exact List.any_eq_true.2 ⟨y, mem_setG hs hy hk, by simp [h1.1, h1.2]⟩
    · exact absurd rfl e
theorem setG_len {l : List Gra} {f w : Str} {r : Int} : (setG l f w r).length ≤ l.length + 1 := by
  unfold setG
  have := posG_le l ⟨f, w, 0⟩
  by_cases h0 : r = 0
  · simp [h0]; omega
  · simp [h0]; omega
theorem graErr_all {l : List Gra} (h : graErr l = 0) : l.length ≤ 60 ∧ (∀ x, x ∈ l → oneGra x = 0) ∧ rising graLt l = true ∧ ownedB l = true := by
  unfold graErr at h
  split at h
  · omega
  · rename_i h60
    split at h
    · rename_i h1
      split at h
      · split at h
        · exact ⟨by omega, firstErr_zero.1 h1, by assumption, by assumption⟩
        · omega
      · omega
    · exact absurd h (by assumption)
theorem graErr_of {l : List Gra} (h1 : l.length ≤ 60) (h2 : ∀ x, x ∈ l → oneGra x = 0) (h3 : rising graLt l = true) (h4 : ownedB l = true) : graErr l = 0 := by
  unfold graErr
  rw [if_neg (by omega), if_pos (firstErr_zero.2 h2), if_pos h3, if_pos h4]
/-- What is given keeps grants right. -/
theorem graErr_set {l : List Gra} {f w : Str} {r : Int} (h : graErr l = 0) (hf : isName f = true) (hw : isName w = true) (hr : 0 ≤ r ∧ r ≤ 3) (ho : (setG l f w r).any (ownIn f) = true) (hlen : (setG l f w r).length ≤ 60) : graErr (setG l f w r) = 0 := by
  obtain ⟨h1, h2, h3, h4⟩ := graErr_all h
  refine graErr_of hlen (fun x hx => ?_) (setG_rising h3) (setG_owned h3 h4 ho)
  rcases setG_mem h3 hx with h | ⟨h0, rfl⟩
  · exact h2 x h
  · exact oneGra_ok ⟨hf, hw⟩ ⟨by show 1 ≤ r; omega, hr.2⟩
theorem setG_big {l : List Gra} {f w : Str} {r : Int} (hl : GBig l) (hs : rising graLt l = true) (hlen : l.length ≤ 1000000) (hf : f.length ≤ 140737488355328) (hw : w.length ≤ 140737488355328) : GBig (setG l f w r) := by
  refine ⟨fun x hx => ?_, by have := setG_len (l := l) (f := f) (w := w) (r := r); omega⟩
  rcases setG_mem hs hx with h | ⟨_, rfl⟩
  · exact hl.each x h
  · exact ⟨hf, hw⟩
end Go.Proofs.YtiljlcgmcmjcoaaGreatDoor

/- Grants in the abstract layer, 14: Delete; set in general. -/
set_option linter.unusedSimpArgs false
set_option maxHeartbeats 1000000
namespace Go.Proofs.YtiljlcgmcmjcoaaGreatDoor
open Go.Ab Go.RowKit
set_option maxRecDepth 10000
attribute [local irreducible] Awp Ops OpsX Wanted Red ExOk Go.Ab.Fin ACall Rz RzL RzRows Enters ResOk RenV RenVL ArgV ArgVL

theorem del_rowsG {α : Type} (rs : List α) (i n : Nat) (hi : i < n) (hn : n ≤ rs.length) (z : α) :
    ((rs.take i ++ (rs.drop (i + 1)).take (n - (i + 1)) ++ rs.drop (i + (n - (i + 1)))).take (i + (n - (i + 1))) ++ List.replicate (n - (i + (n - (i + 1)))) z ++ (rs.take i ++ (rs.drop (i + 1)).take (n - (i + 1)) ++ rs.drop (i + (n - (i + 1)))).drop (i + (n - (i + 1)) + (n - (i + (n - (i + 1)))))).take (n - 1) =
      rs.take i ++ (rs.drop (i + 1)).take (n - (i + 1)) := by
  rw [List.append_assoc, List.take_append_of_le_length (by simp; omega), List.take_take, show min (n - 1) (i + (n - (i + 1))) = n - 1 from by omega, List.take_append_of_le_length (by simp; omega), List.take_of_length_le (by simp; omega)]

theorem a_deleteG (l : List Gra) (i : Nat) (hi : i < l.length) (hl : l.length ≤ 1000000) :
    ACall C1.P 133 [.os 0 0 l.length, .v (.int .i64 (i : Int)), .v (.int .i64 ((i + 1 : Nat) : Int))] [.own false 3 (l.map Gra.row)] (.os 0 0 (l.length - 1)) [.own false 3 ((l.take i ++ l.drop (i + 1)).map Gra.row)] := by
  have hrc : (l.map Gra.row).all (fun row => row.length == 3 && row.all cellLike) = true := all_map_cells fun _ => rfl
  have hml : (l.map Gra.row).length = l.length := List.length_map ..
  refine acall_intro (C := C1) Tryz.func133 rfl _ Tryz.ntmps133 (Nat.le_of_ble_eq_true rfl) _ Tryz.results133 1 rfl rfl ?_
  repeat' (first | refine walk ?_ | (first | (refine o_slo3 ?_) | (refine o_slo ?_) | (refine o_clr ?_) | (apply opsx_upd; apply ex_append_in; (case hx => rfl); (case hT => rfl); (case he => rfl); (case hE => rfl); (case hn => rfl); (case hsrc => apply srcA_os; rfl; rfl; (show 0 + (i + 1) + (l.length - (i + 1)) ≤ (l.map Gra.row).length; omega); rfl; exact hrc); (case hfit => (first | omega | (simp; done) | (simp only [List.length_cons, List.length_nil, List.length_map]; omega) | (simp; omega))); (case hN => exact nle rfl))) | ((first | (apply ops_split_t; rfl; rfl; exact nle rfl) | (apply ops_split_f; rfl; rfl; exact nle rfl) | (apply awp_cond; rfl)); all_goals (intro hc; have hp := hc; first | (simp at hp; done) | ((try simp at hp); first | (exfalso; omega) | skip))) | (apply awp_cond_any; rfl))
  all_goals try (exfalso; omega)
  have hL : (List.take (l.length - (i + 1)) (List.drop (i + 1) (l.map Gra.row))).length = l.length - (i + 1) := by simp
  apply fin_cut (C := C1) 0 (l.length - 1)
  case hn => rfl
  case hr =>
    simp only [Nat.zero_add, Nat.sub_zero, hL]
    refine (del_rowsG (l.map Gra.row) i l.length hi (by omega) _).trans (?_ : _ = (l.take i ++ l.drop (i + 1)).map Gra.row)
    rw [List.map_append, List.map_take, List.map_drop, List.take_of_length_le (l := List.drop (i + 1) (l.map Gra.row)) (by simp)]
  (apply fin_ownr (rs := [.tmp 6]) [] 1; (case hr => (repeat (first | exact resok_nil | (apply resok_tmp; rfl) | (apply resok_cell; rfl; rfl; rfl; rfl; rfl)))); (case hL => rfl); (case hh => (repeat (first | exact hsok_nil | refine q_id ?_ | refine q_idx ?_ ?_)); all_goals trace_state); (case hi => first | exact (rfl : _ = ([] : List (Nat × Nat))) | exact (rfl : _ = [((0 : Nat), (0 : Nat))]) | exact (rfl : _ = [((0 : Nat), (0 : Nat)), (1, 1)])); (case hz => first | rfl | (simp [pack, AV.ren, AV.ren.renL, lookN, getT, enumT]; done) | (simp [pack, AV.ren, AV.ren.renL, lookN, getT, enumT, *]; done) | (simp [pack, AV.ren, AV.ren.renL, lookN, getT, enumT]; omega)))

theorem hitG_lt {l : List Gra} {k : Gra} (h : hitG l k = true) : posG l k < l.length := by
  unfold hitG at h
  split at h
  · rename_i x hx; exact (List.getElem?_eq_some_iff.1 hx).1
  · cases h
theorem a_set (l : List Gra) (f w : Str) (r : Int) (hl : l.length ≤ 1000000) (hs : rising graLt l = true) (hr : r = 0 → hitG l ⟨f, w, 0⟩ = true) :
    ACall C.P 104 [graAV l, .v (str f), .v (str w), .v (.int .i64 r)] [] (.os 0 0 (setG l f w r).length) [.own false 3 ((setG l f w r).map Gra.row)] := by
  have hfi := g_find l f w hl hs
  by_cases h0 : r = 0
  · have hh := hr h0
    have hp := hitG_lt hh
    have hL : setG l f w r = l.take (posG l ⟨f, w, 0⟩) ++ l.drop (posG l ⟨f, w, 0⟩ + 1) := by simp [setG, h0, hh]
    rw [hh] at hfi
    have hdel := a_deleteG l (posG l ⟨f, w, 0⟩) hp hl
    generalize setG l f w r = L at hL ⊢
    generalize posG l ⟨f, w, 0⟩ = p at hL hp hfi hdel
    have hlen : L.length = l.length - 1 := by rw [hL]; simp; omega
    subst h0
    refine acall_intro Tryz.func104 rfl _ Tryz.ntmps104 (Nat.le_of_ble_eq_true rfl) _ Tryz.results104 0 rfl rfl ?_
    repeat' (first | refine walk ?_ | (first | (apply to_call Tryz.func79 rfl rfl; intro hIsFn; refine o_callo ([]) hIsFn (a_cloneG l hl ..) ?_) | (apply opsx_val; apply ex_call ([0]); exact isFn_of Tryz.func108 rfl rfl; apply hfi; (case hz => (repeat' (first | exact rzl_nil | apply rzl_cons | exact rz_pure rfl | exact rz_ex | (apply rz_os_pure; (case hn => rfl); (case hl => first | with_reducible rfl | (simp; done) | (simp [*]; done) | omega); (case hp => (first | assumption | exact pures_all rfl | exact pures_map fun _ => rfl))) | apply rz_agg | apply rz_clo))); (case hfl => rfl); (case hN => exact nle rfl)) | (apply to_call Tryz.func133 rfl rfl; intro hIsFn; refine o_callh ([0]) 0 hIsFn (hdel ..) ?_)) | ((first | (apply awp_cond; rfl)); all_goals (intro hc; have hp := hc; first | (simp at hp; done) | ((try simp at hp); first | (exfalso; omega) | skip))) | (apply awp_cond_any; rfl))
    all_goals try (exfalso; omega)
    (apply fin_ownr (rs := [.tmp 8]) [(0, 0)] 1; (case hr => (repeat (first | exact resok_nil | (apply resok_tmp; rfl) | (apply resok_cell; rfl; rfl; rfl; rfl; rfl)))); (case hL => rfl); (case hh => (repeat (first | exact hsok_nil | refine q_id ?_ | refine q_idx ?_ ?_)); all_goals (rw [hL])); (case hi => first | exact (rfl : _ = ([] : List (Nat × Nat))) | exact (rfl : _ = [((0 : Nat), (0 : Nat))]) | exact (rfl : _ = [((0 : Nat), (0 : Nat)), (1, 1)])); (case hz => first | rfl | (simp [pack, AV.ren, AV.ren.renL, lookN, getT, enumT]; done) | (simp [pack, AV.ren, AV.ren.renL, lookN, getT, enumT, *]; done) | (simp [pack, AV.ren, AV.ren.renL, lookN, getT, enumT]; omega)))
  · cases hh : hitG l ⟨f, w, 0⟩ with
    | true =>
      have hp := hitG_lt hh
      have hL : setG l f w r = l.take (posG l ⟨f, w, 0⟩) ++ ([⟨f, w, r⟩] ++ l.drop (posG l ⟨f, w, 0⟩ + 1)) := by simp [setG, h0, hh]
      have hx : l[posG l ⟨f, w, 0⟩].folder = f ∧ l[posG l ⟨f, w, 0⟩].who = w := by
        unfold hitG at hh
        rw [List.getElem?_eq_getElem hp] at hh
        simpa [graCmp_zero] using hh
      rw [hh] at hfi
      generalize setG l f w r = L at hL ⊢
      generalize posG l ⟨f, w, 0⟩ = p at hL hp hfi hx
      have hlen : L.length = l.length := by rw [hL]; simp; omega
      have hrow := getRow (f := Gra.row) hp
      refine acall_intro Tryz.func104 rfl _ Tryz.ntmps104 (Nat.le_of_ble_eq_true rfl) _ Tryz.results104 0 rfl rfl ?_
      repeat' (first | refine walk ?_ | (first | (apply to_call Tryz.func79 rfl rfl; intro hIsFn; refine o_callo ([]) hIsFn (a_cloneG l hl ..) ?_) | (apply opsx_val; apply ex_call ([0]); exact isFn_of Tryz.func108 rfl rfl; apply hfi; (case hz => (repeat' (first | exact rzl_nil | apply rzl_cons | exact rz_pure rfl | exact rz_ex | (apply rz_os_pure; (case hn => rfl); (case hl => first | with_reducible rfl | (simp; done) | (simp [*]; done) | omega); (case hp => (first | assumption | exact pures_all rfl | exact pures_map fun _ => rfl))) | apply rz_agg | apply rz_clo))); (case hfl => rfl); (case hN => exact nle rfl)) | (refine o_ixo ?_)) | ((first | (apply awp_cond; rfl)); all_goals (intro hc; have hp := hc; first | (simp at hp; done) | ((try simp at hp); first | (exfalso; omega) | skip))) | (apply awp_cond_any; rfl))
      all_goals try (exfalso; omega)
      (apply fin_ownr (rs := [.tmp 8]) [(0, 0)] 1; (case hr => (repeat (first | exact resok_nil | (apply resok_tmp; rfl) | (apply resok_cell; rfl; rfl; rfl; rfl; rfl)))); (case hL => rfl); (case hh => (repeat (first | exact hsok_nil | refine q_id ?_ | refine q_idx ?_ ?_)); all_goals (show (l.map Gra.row).set p (Gra.row ⟨l[p].folder, l[p].who, r⟩) = L.map Gra.row; rw [hx.1, hx.2, ← List.map_set, hL, List.set_eq_take_append_cons_drop, if_pos (by assumption)]; rfl)); (case hi => first | exact (rfl : _ = ([] : List (Nat × Nat))) | exact (rfl : _ = [((0 : Nat), (0 : Nat))]) | exact (rfl : _ = [((0 : Nat), (0 : Nat)), (1, 1)])); (case hz => first | rfl | (simp [pack, AV.ren, AV.ren.renL, lookN, getT, enumT]; done) | (simp [pack, AV.ren, AV.ren.renL, lookN, getT, enumT, *]; done) | (simp [pack, AV.ren, AV.ren.renL, lookN, getT, enumT]; omega)))
    | false =>
      by_cases hp : posG l ⟨f, w, 0⟩ = l.length
      · have hL : setG l f w r = l ++ [⟨f, w, r⟩] := by simp [setG, h0, hh, hp]
        rw [hL, List.length_append]
        exact a_setEnd l f w r hl hs h0 hh hp
      · have hpl : posG l ⟨f, w, 0⟩ < l.length := by have := posG_le l ⟨f, w, 0⟩; omega
        have hL : setG l f w r = l.take (posG l ⟨f, w, 0⟩) ++ ([⟨f, w, r⟩] ++ l.drop (posG l ⟨f, w, 0⟩)) := by simp [setG, h0, hh]
        rw [hh] at hfi
        have hin := g_insertAt l ⟨f, w, r⟩ (posG l ⟨f, w, 0⟩) hpl hl
        generalize setG l f w r = L at hL ⊢
        generalize posG l ⟨f, w, 0⟩ = p at hL hpl hfi hin
        have hlen : L.length = l.length + 1 := by rw [hL]; simp; omega
        refine acall_intro Tryz.func104 rfl _ Tryz.ntmps104 (Nat.le_of_ble_eq_true rfl) _ Tryz.results104 0 rfl rfl ?_
        repeat' (first | refine walk ?_ | (first | (apply to_call Tryz.func79 rfl rfl; intro hIsFn; refine o_callo ([]) hIsFn (a_cloneG l hl ..) ?_) | (apply opsx_val; apply ex_call ([0]); exact isFn_of Tryz.func108 rfl rfl; apply hfi; (case hz => (repeat' (first | exact rzl_nil | apply rzl_cons | exact rz_pure rfl | exact rz_ex | (apply rz_os_pure; (case hn => rfl); (case hl => first | with_reducible rfl | (simp; done) | (simp [*]; done) | omega); (case hp => (first | assumption | exact pures_all rfl | exact pures_map fun _ => rfl))) | apply rz_agg | apply rz_clo))); (case hfl => rfl); (case hN => exact nle rfl)) | (refine o_fzl ?_) | (apply to_call Tryz.func134 rfl rfl; intro hIsFn; refine o_callg ([0]) 0 hIsFn (hin ..) ?_)) | ((first | (apply awp_cond; rfl)); all_goals (intro hc; have hp := hc; first | (simp at hp; done) | ((try simp at hp); first | (exfalso; omega) | skip))) | (apply awp_cond_any; rfl))
        all_goals try (exfalso; omega)
        (apply fin_ownr (rs := [.tmp 8]) [(1, 0)] 1; (case hr => (repeat (first | exact resok_nil | (apply resok_tmp; rfl) | (apply resok_cell; rfl; rfl; rfl; rfl; rfl)))); (case hL => rfl); (case hh => (repeat (first | exact hsok_nil | refine q_id ?_ | refine q_idx ?_ ?_)); all_goals (rw [hL])); (case hi => first | exact (rfl : _ = ([] : List (Nat × Nat))) | exact (rfl : _ = [((0 : Nat), (0 : Nat))]) | exact (rfl : _ = [((0 : Nat), (0 : Nat)), (1, 1)])); (case hz => first | rfl | (simp [pack, AV.ren, AV.ren.renL, lookN, getT, enumT]; done) | (simp [pack, AV.ren, AV.ren.renL, lookN, getT, enumT, *]; done) | (simp [pack, AV.ren, AV.ren.renL, lookN, getT, enumT]; omega)))
end Go.Proofs.YtiljlcgmcmjcoaaGreatDoor

/- Grants in the abstract layer, 15: PutGrant. -/
set_option linter.unusedSimpArgs false
set_option maxHeartbeats 1000000
namespace Go.Proofs.YtiljlcgmcmjcoaaGreatDoor
open Go.Ab Go.RowKit
set_option maxRecDepth 10000
attribute [local irreducible] Awp Ops OpsX Wanted Red ExOk Go.Ab.Fin ACall Rz RzL RzRows Enters ResOk RenV RenVL ArgV ArgVL

def gputStep (f w : Str) (r : Int) (s : List Gra × Bool) (x : Gra) : List Gra × Bool :=
  (s.1 ++ ((if s.2 = false ∧ graLt x ⟨f, w, 0⟩ = false then [⟨f, w, r⟩] else []) ++ (if sameKey ⟨f, w, 0⟩ x = true then [] else [x])), s.2 || !graLt x ⟨f, w, 0⟩)
def putSt (f w : Str) (r : Int) (l : List Gra) : List Gra × Bool := l.foldl (gputStep f w r) ([], decide (r = 0))
@[simp] theorem putSt_nil (f w : Str) (r : Int) : putSt f w r [] = ([], decide (r = 0)) := rfl
end Go.Proofs.YtiljlcgmcmjcoaaGreatDoor

/- Grants in the abstract layer, 16: SameGrants, grantsAre, MakeOf, GiveOf. -/
set_option linter.unusedSimpArgs false
set_option maxHeartbeats 1000000
namespace Go.Proofs.YtiljlcgmcmjcoaaGreatDoor
open Go.Ab Go.RowKit
set_option maxRecDepth 10000
attribute [local irreducible] Awp Ops OpsX Wanted Red ExOk Go.Ab.Fin ACall Rz RzL RzRows Enters ResOk RenV RenVL ArgV ArgVL

end Go.Proofs.YtiljlcgmcmjcoaaGreatDoor

/- Grants in the abstract layer, 17: GiveOf; Make and Give with set in general. -/
set_option linter.unusedSimpArgs false
set_option maxHeartbeats 1000000
namespace Go.Proofs.YtiljlcgmcmjcoaaGreatDoor
open Go.Ab Go.RowKit
set_option maxRecDepth 10000
attribute [local irreducible] Awp Ops OpsX Wanted Red ExOk Go.Ab.Fin ACall Rz RzL RzRows Enters ResOk RenV RenVL ArgV ArgVL

theorem giveErr1_none {l : List Gra} {f b w : Str} {r : Int} (he : giveErr1 l f b w r = 0) (h0 : r = 0) : hitG l ⟨f, w, 0⟩ = true := by
  obtain ⟨hg, _, _, _, hw0⟩ := ge_inv he
  cases h : hitG l ⟨f, w, 0⟩
  · have := rightG_miss (graErr_rise hg) h
    exact absurd this (hw0.resolve_left (fun e => e h0))
  · rfl
theorem a_make (l : List Gra) (hl : GBig l) (f w : Str) (hf : f.length ≤ 140737488355328) (hw : w.length ≤ 140737488355328) (he : makeErr l f w = 0) :
    AFn C.P 60 [graAV l, .v (str f), .v (str w)] (.tup [graAV (setG l f w 3), .v (.int .i64 0)]) := by
  have h0 : graErr l = 0 := by
    cases Classical.em (graErr l = 0) with
    | inl h => exact h
    | inr h => simp [makeErr, h] at he
  have hlen := graErr_len h0
  exact a_make_ok l hl f w hf hw he _ (a_set l f w 3 (by omega) (graErr_rise h0) (fun h => by omega))
theorem a_give (l : List Gra) (hl : GBig l) (f b w : Str) (r : Int) (hf : f.length ≤ 140737488355328) (hb : b.length ≤ 140737488355328) (hw : w.length ≤ 140737488355328) (he : giveErr1 l f b w r = 0) :
    AFn C.P 61 [graAV l, .v (str f), .v (str b), .v (str w), .v (.int .i64 r)] (.tup [graAV (giveL (setG l f w r) f), .v (.int .i64 (giveErr2 (setG l f w r) f))]) := by
  have h0 := (ge_inv he).1
  have hlen := graErr_len h0
  have := setG_len (l := l) (f := f) (w := w) (r := r)
  exact a_give_ok l hl f b w r hf hb hw he _ (by omega) (a_set l f w r (by omega) (graErr_rise h0) (giveErr1_none he))
end Go.Proofs.YtiljlcgmcmjcoaaGreatDoor
