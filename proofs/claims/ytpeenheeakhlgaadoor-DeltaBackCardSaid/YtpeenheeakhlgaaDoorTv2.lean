/- The law TreeBack: plain, and walked. -/
import Derived.Test.YtpeenheeakhlgaaDoorTv1
import Derived.Test.YtpeenheeakhlgaaDoorTwA
set_option linter.unusedSimpArgs false
set_option linter.unnecessarySimpa false
set_option linter.unusedVariables false
set_option maxHeartbeats 1000000
namespace Go.Proofs.YtpeenheeakhlgaaDoor
open Go.Ab Go.RowKit
set_option maxRecDepth 10000

def nrm (x : Ent) : Ent := ⟨x.path, x.fold, x.text, 0⟩
theorem like_nrm : ∀ {a b : List Ent}, a.map nrm = b.map nrm → likeT a b = true
  | [], [], _ => rfl
  | [], _ :: _, h => by simp at h
  | _ :: _, [], h => by simp at h
  | a :: s, b :: t, h => by
    simp only [List.map_cons, List.cons.injEq] at h
    obtain ⟨h1, h2⟩ := h
    simp only [nrm, Ent.mk.injEq] at h1
    simp only [likeT, likeE, Bool.and_eq_true, decide_eq_true_eq]
    exact ⟨⟨⟨h1.1, h1.2.1⟩, h1.2.2.1⟩, like_nrm h2⟩
theorem look_nrm (t : List Ent) (p : Str) : look (t.map nrm) p = (look t p).map nrm := by
  unfold look
  rw [List.find?_map]
  rfl
theorem rising_nrm {t : List Ent} (h : rising entLt t = true) : rising entLt (t.map nrm) = true := by
  rw [rising_pairE, List.pairwise_map]
  exact rising_pairE.1 h
theorem like_of_look {a b : List Ent} (ha : rising entLt a = true) (hb : rising entLt b = true) (h : ∀ p, (look a p).map nrm = (look b p).map nrm) : likeT a b = true ∧ a.length = b.length := by
  have he : a.map nrm = b.map nrm := look_ext (rising_nrm ha) (rising_nrm hb) fun p => by rw [look_nrm, look_nrm]; exact h p
  exact ⟨like_nrm he, by have := congrArg List.length he; simpa using this⟩
theorem chg_ok {k : Int} {p g x : Str} {b : Int} (h1 : 1 ≤ k ∧ k ≤ 4) (hp : pathErr p = 0) (ht : k = 3 → pathErr g = 0) (ht2 : ¬ k = 3 → g = []) (hx : ¬ k = 2 → x = []) (hx2 : x.length ≤ 300) (hb : -1 ≤ b ∧ b ≤ 1000000) : chgErr ⟨k, p, g, x, b⟩ = 0 := by
  unfold chgErr chgRest
  simp only
  rw [if_neg (by omega), if_neg (by simp [hp]), if_neg (fun e => e.2 (ht e.1)), if_neg (fun e => by
    rcases e with e | e
    · exact e.2 (ht2 e.1)
    · exact e.2 (hx e.1)), if_neg (by omega), if_neg (by omega)]
theorem not_nil {t : List Ent} (h : Right t) {q : Str} {y : Ent} (hy : look t q = some y) : ¬ q = [] := fun e => by
  obtain ⟨h6, h7⟩ := look_some hy
  have := (entErr_zero (h.ent y h6)).1
  rw [h7, e] at this
  exact right_names this [] (by simp [namesOf]) rfl
theorem back_there {t : List Ent} {f g : Str} (h : Right t) (hr : rawE t ⟨3, f, g, [], -1⟩ 9 = 0) : rawE (doneL t ⟨3, f, g, [], -1⟩ 9) ⟨3, g, f, [], -1⟩ 9 = 0 ∧ likeT (doneL (doneL t ⟨3, f, g, [], -1⟩ 9) ⟨3, g, f, [], -1⟩ 9) t = true := by
  have hRu := done_right h (by decide) hr
  obtain ⟨hc0, hm0, hd0⟩ := raw_zero hr
  obtain ⟨-, -, hpe, hte, -⟩ := chgErr_zero hc0
  have hpt : pathErr g = 0 := hte rfl
  have hpe : pathErr f = 0 := hpe
  obtain ⟨hf, hi, hmv, -⟩ := may_zero hm0
  have hM : (if inB g f = true then (3 : Int) else if hitE t g = true then 6 else 0) = 0 := hmv
  have hin0 : inB g f = false := by
    cases h0 : inB g f with
    | true => rw [h0] at hM; simp at hM
    | false => rfl
  rw [hin0, if_neg (by decide)] at hM
  have hto : look t g = none := by
    cases h0 : hitE t g with
    | true => rw [h0] at hM; simp at hM
    | false => exact (hitE_none h0).1
  have hhf : hitE t f = true := by
    have hi : (if hitE t f = true then (0 : Int) else 5) = 0 := hi
    cases h0 : hitE t f with
    | true => rfl
    | false => rw [h0] at hi; simp at hi
  obtain ⟨xf, hxf⟩ : ∃ x, look t f = some x := by
    rw [look_hit] at hhf
    exact Option.isSome_iff_exists.1 hhf
  have hxm := look_some hxf
  have hin1 : inB f g = false := by
    cases h0 : inB f g with
    | false => rfl
    | true =>
      by_cases e : g = f
      · subst e; rw [inB_refl] at hin0; cases hin0
      · obtain ⟨y, h3, _⟩ := anc h _ xf hxm.1 rfl g (by rw [hxm.2]; exact h0) (by rw [hxm.2]; exact e)
        rw [hto] at h3; cases h3
  have hlm := fun p => look_move (c := ⟨3, f, g, [], -1⟩) (v := 9) h rfl hto p
  simp only at hlm
  generalize hu : doneL t ⟨3, f, g, [], -1⟩ 9 = u at *
  have huf : look u f = none := by rw [hlm, hin1, inB_refl]; rfl
  have hut : look u g = some (moveTo ⟨3, f, g, [], -1⟩ 9 xf) := by
    rw [hlm, inB_refl, if_pos rfl, show backP ⟨3, f, g, [], -1⟩ g = f from by simp [backP], hxf]; rfl
  have hlm2 := fun p => look_move (c := ⟨3, g, f, [], -1⟩) (v := 9) hRu rfl huf p
  simp only at hlm2
  have hlk : ∀ p, (look (doneL u ⟨3, g, f, [], -1⟩ 9) p).map nrm = (look t p).map nrm := fun p => by
    rw [hlm2]
    by_cases h1 : inB p f = true
    · rw [if_pos h1]
      obtain ⟨r, rfl, hr2⟩ := inB_iff.1 h1
      rw [show backP ⟨3, g, f, [], -1⟩ (f ++ r) = g ++ r from by simp [backP], hlm, if_pos (inB_iff.2 ⟨r, rfl, hr2⟩), show backP ⟨3, f, g, [], -1⟩ (g ++ r) = f ++ r from by simp [backP]]
      cases hl : look t (f ++ r) with
      | none => rfl
      | some x =>
        have hxp := (look_some hl).2
        simp [Option.map_some, nrm, moveTo, hxp]
    · rw [if_neg h1]
      by_cases h2 : inB p g = true
      · rw [if_pos h2, none_in h hto h2]
      · rw [if_neg h2, hlm, if_neg h2, if_neg h1]
  have hs2 := doneL_rising (c := ⟨3, g, f, [], -1⟩) (v := 9) hRu.rise
  obtain ⟨hlike, hlen⟩ := like_of_look hs2 h.rise hlk
  refine ⟨?_, hlike⟩
  have hce : chgErr ⟨3, g, f, [], -1⟩ = 0 := chg_ok (by omega) hpt (fun _ => hpe) (fun e => absurd rfl e) (fun _ => rfl) (by simp) (by omega)
  have hpf : folderErr u (parentOf f) = 0 := by
    have h1 := h.par xf hxm.1
    rw [hxm.2] at h1
    rcases folder_zero.1 h1 with h2 | ⟨y, h2, h3⟩
    · exact folder_zero.2 (.inl h2)
    · have hpi := par_in hpe (not_nil h h2)
      refine folder_zero.2 (.inr ⟨y, ?_, h3⟩)
      rw [hlm, if_neg, if_neg]
      · exact h2
      · intro h5; exact par_ne hpe (inB_anti h5 hpi)
      · intro h5
        have := inB_trans hpi h5
        rw [hin1] at this; cases this
  have hmay : mayErr u ⟨3, g, f, [], -1⟩ = 0 := by
    unfold mayErr
    rw [if_neg (by simpa [goalOf] using hpf)]
    have h1 : isErr u ⟨3, g, f, [], -1⟩ = 0 := by
      show (if hitE u g = true then (0 : Int) else 5) = 0
      rw [look_hit, hut]; rfl
    have h2 : mvErr u ⟨3, g, f, [], -1⟩ = 0 := by
      show (if inB f g = true then (3 : Int) else if hitE u f = true then 6 else 0) = 0
      rw [hin1, look_hit, huf]; rfl
    have h3 : staleErr u ⟨3, g, f, [], -1⟩ = 0 := by
      unfold staleErr
      rw [if_neg]; simp
    rw [if_neg (by simp [h1]), if_neg (by simp [h2]), h3]
  have hbad : moveBad u ⟨3, g, f, [], -1⟩ = false := by
    simp only [moveBad, decide_true, Bool.true_and, List.any_eq_false]
    intro x hx
    obtain ⟨hx1, hx2⟩ := List.mem_filter.1 hx
    have hx2 : inB x.path g = true := hx2
    have hl := look_mem hRu.rise hx1
    obtain ⟨r, hr1, hr2⟩ := inB_iff.1 hx2
    rw [hlm, if_pos hx2, hr1, show backP ⟨3, f, g, [], -1⟩ (g ++ r) = f ++ r from by simp [backP]] at hl
    obtain ⟨x0, hx0, hx3⟩ := Option.map_eq_some_iff.1 hl
    obtain ⟨h6, h7⟩ := look_some hx0
    have h8 := (pathErr_zero.1 (entErr_zero (h.ent x0 h6)).1).2
    rw [hr1, List.drop_left, ← h7, h8]; decide
  have hdn : doneE u ⟨3, g, f, [], -1⟩ 9 = 0 := by
    unfold doneE
    rw [hbad, if_neg (by decide), if_neg]
    rw [hlen]; have := h.len; omega
  unfold rawE
  rw [if_neg (by simp [hce]), if_neg (by simp [hmay]), hdn]
theorem back_gone {t : List Ent} {g x : Str} (h : Right t) (hr : rawE t ⟨2, g, [], x, 0⟩ 9 = 0) : rawE (doneL t ⟨2, g, [], x, 0⟩ 9) ⟨4, g, [], [], 9⟩ 10 = 0 ∧ doneL (doneL t ⟨2, g, [], x, 0⟩ 9) ⟨4, g, [], [], 9⟩ 10 = t := by
  have hRu := done_right h (by decide) hr
  obtain ⟨hc0, hm0, hd0⟩ := raw_zero hr
  obtain ⟨-, -, hpe, -, -⟩ := chgErr_zero hc0
  have hpe : pathErr g = 0 := hpe
  obtain ⟨hf, hi, -, hst⟩ := may_zero hm0
  have hf : folderErr t (parentOf g) = 0 := hf
  have hno : ∀ y, y ∈ t → inB y.path g = false := fun y hy => by
    cases h0 : inB y.path g with
    | false => rfl
    | true =>
      have hv := (entErr_zero (h.ent y hy)).2.2.2
      have hv1 : 1 ≤ y.ver := by simp [isVer] at hv; exact hv.1
      have : t.any (newer ⟨2, g, [], x, 0⟩) = true := List.any_eq_true.2 ⟨y, hy, by simp [newer, h0]; omega⟩
      unfold staleErr at hst
      rw [if_pos ⟨by simp, this⟩] at hst
      exact absurd hst (by decide)
  have hD : doneL t ⟨2, g, [], x, 0⟩ 9 = putT t ⟨g, false, x, 9⟩ := by simp [doneL]
  rw [hD] at hRu ⊢
  have hD2 : doneL (putT t ⟨g, false, x, 9⟩) ⟨4, g, [], [], 9⟩ 10 = t := by
    have : doneL (putT t ⟨g, false, x, 9⟩) ⟨4, g, [], [], 9⟩ 10 = keepE (inP g) (putT t ⟨g, false, x, 9⟩) := by simp [doneL]
    rw [this]
    refine look_ext (keepE_rising hRu.rise) h.rise fun p => ?_
    rw [look_keep]
    split
    · rename_i h1
      symm
      rw [look_none]
      intro y hy e
      have := hno y hy
      rw [e, h1] at this; cases this
    · rename_i h1
      rw [look_put h.rise, if_neg]
      intro e
      exact h1 (by rw [e]; exact inB_refl _)
  refine ⟨?_, hD2⟩
  have hce : chgErr ⟨4, g, [], [], 9⟩ = 0 := chg_ok (by omega) hpe (fun e => absurd e (by decide)) (fun _ => rfl) (fun _ => rfl) (by simp) (by omega)
  have hpf : folderErr (putT t ⟨g, false, x, 9⟩) (parentOf g) = 0 := by
    rcases folder_zero.1 hf with h2 | ⟨y, h2, h3⟩
    · exact folder_zero.2 (.inl h2)
    · refine folder_zero.2 (.inr ⟨y, ?_, h3⟩)
      rw [look_put h.rise, if_neg (par_ne hpe)]; exact h2
  have hmay : mayErr (putT t ⟨g, false, x, 9⟩) ⟨4, g, [], [], 9⟩ = 0 := by
    unfold mayErr
    rw [if_neg (by simpa [goalOf] using hpf)]
    have h1 : isErr (putT t ⟨g, false, x, 9⟩) ⟨4, g, [], [], 9⟩ = 0 := by
      show (if hitE (putT t ⟨g, false, x, 9⟩) g = true then (0 : Int) else 5) = 0
      rw [look_hit, look_put h.rise]; simp
    have h2 : mvErr (putT t ⟨g, false, x, 9⟩) ⟨4, g, [], [], 9⟩ = 0 := rfl
    have h3 : staleErr (putT t ⟨g, false, x, 9⟩) ⟨4, g, [], [], 9⟩ = 0 := by
      unfold staleErr
      rw [if_neg]
      rintro ⟨-, h4⟩
      obtain ⟨y, hy, hy2⟩ := List.any_eq_true.1 h4
      simp only [newer, Bool.and_eq_true, decide_eq_true_eq] at hy2
      rcases (mem_put h.rise y).1 hy with rfl | ⟨h5, _⟩
      · exact absurd hy2.1 (by simp)
      · rw [hno y h5] at hy2; cases hy2.2
    rw [if_neg (by simp [h1]), if_neg (by simp [h2]), h3]
  have hdn : doneE (putT t ⟨g, false, x, 9⟩) ⟨4, g, [], [], 9⟩ 10 = 0 := by
    unfold doneE
    rw [show moveBad (putT t ⟨g, false, x, 9⟩) ⟨4, g, [], [], 9⟩ = false from rfl, if_neg (by decide), hD2, if_neg]
    have := h.len; omega
  unfold rawE
  rw [if_neg (by simp [hce]), if_neg (by simp [hmay]), hdn]
attribute [local irreducible] Awp Ops OpsX Wanted Red ExOk Go.Ab.Fin ACall Rz RzL RzRows Enters ResOk RenV RenVL ArgV ArgVL
theorem apply_of {t : List Ent} {c : Chg} {v : Int} (h : Right t) (hv : isVer v = true) (hr : rawE t c v = 0) : applyE t c v = 0 ∧ applyL t c v = doneL t c v := by
  have h1 : applyE t c v = 0 := by
    unfold applyE
    rw [if_neg (by rw [right_iff.2 h]; simp), hv, if_neg (by decide)]; exact hr
  exact ⟨h1, by unfold applyL; rw [if_pos h1]⟩
theorem law_tback (t : List Ent) (f g x : Str) (hb : EBig t) (l1 : f.length ≤ 140737488355328) (l2 : g.length ≤ 140737488355328) (l3 : x.length ≤ 140737488355328) : AFn C.P 7 [entAV t, .v (str f), .v (str g), .v (str x)] (.v (.bool true)) := by
  have h1 : AFn C.P 21 [entAV t, .agg [.v (.int .i64 3), .v (str f), .v (str g), .v (str []), .v (.int .i64 (-1))], .v (.int .i64 9)] _ := a_apply t ⟨3, f, g, [], -1⟩ 9 hb ⟨l1, l2, by simp⟩
  have h3 : AFn C.P 21 [entAV t, .agg [.v (.int .i64 2), .v (str g), .v (str []), .v (str x), .v (.int .i64 0)], .v (.int .i64 9)] _ := a_apply t ⟨2, g, [], x, 0⟩ 9 hb ⟨l2, by simp, l3⟩
  by_cases z1 : applyE t ⟨3, f, g, [], -1⟩ 9 = 0
  · obtain ⟨hRt, _, hr1, hL1, hRu1⟩ := apply_zero z1
    obtain ⟨hr2, hlike⟩ := back_there hRt hr1
    obtain ⟨z2, hL2⟩ := apply_of hRu1 (by decide) hr2
    have h2 : AFn C.P 21 [entAV (doneL t ⟨3, f, g, [], -1⟩ 9), .agg [.v (.int .i64 3), .v (str g), .v (str f), .v (str []), .v (.int .i64 (-1))], .v (.int .i64 9)] _ := a_apply (doneL t ⟨3, f, g, [], -1⟩ 9) ⟨3, g, f, [], -1⟩ 9 hRu1.big ⟨l2, l1, by simp⟩
    have hlt := a_likeTrees (doneL (doneL t ⟨3, f, g, [], -1⟩ 9) ⟨3, g, f, [], -1⟩ 9) t (done_right hRu1 (by decide) hr2).big.len hb.len
    rw [z1, hL1] at h1
    rw [z2, hL2] at h2
    rw [hlike] at hlt
    generalize doneL (doneL t ⟨3, f, g, [], -1⟩ 9) ⟨3, g, f, [], -1⟩ 9 = v2 at *
    generalize doneL t ⟨3, f, g, [], -1⟩ 9 = u1 at *
    by_cases z3 : applyE t ⟨2, g, [], x, 0⟩ 9 = 0
    · obtain ⟨_, _, hr3, hL3, hRu3⟩ := apply_zero z3
      obtain ⟨hr4, hD4⟩ := back_gone hRt hr3
      obtain ⟨z4, hL4⟩ := apply_of hRu3 (by decide) hr4
      have h4 : AFn C.P 21 [entAV (doneL t ⟨2, g, [], x, 0⟩ 9), .agg [.v (.int .i64 4), .v (str g), .v (str []), .v (str []), .v (.int .i64 9)], .v (.int .i64 10)] _ := a_apply (doneL t ⟨2, g, [], x, 0⟩ 9) ⟨4, g, [], [], 9⟩ 10 hRu3.big ⟨l2, by simp, by simp⟩
      have hse := a_sameEntries t t hb.len hb.len
      rw [z3, hL3] at h3
      rw [z4, hL4, hD4] at h4
      rw [show decide (t = t) = true from by simp] at hse
      generalize doneL t ⟨2, g, [], x, 0⟩ 9 = u3 at *
      refine acall_intro Tryd.func7 rfl _ Tryd.ntmps7 (Nat.le_of_ble_eq_true rfl) _ Tryd.results7 0 rfl rfl ?_
      repeat' (first | refine walk ?_ | (first | (apply to_call Tryd.func25 rfl rfl; intro hIsFn; refine o_callf hIsFn (a_treeBegun ..) ?_; skip) | (apply to_call Tryd.func21 rfl rfl; intro hIsFn; refine o_callp hIsFn (h1 ..) ?_) | (apply to_call Tryd.func21 rfl rfl; intro hIsFn; refine o_callp hIsFn (h2 ..) ?_) | (apply to_call Tryd.func21 rfl rfl; intro hIsFn; refine o_callp hIsFn (h3 ..) ?_) | (apply to_call Tryd.func21 rfl rfl; intro hIsFn; refine o_callp hIsFn (h4 ..) ?_) | (apply to_call Tryd.func20 rfl rfl; intro hIsFn; refine o_callp hIsFn (hlt ..) ?_) | (apply to_call Tryd.func29 rfl rfl; intro hIsFn; refine o_callp hIsFn (hse ..) ?_)) | ((first | (apply ops_split_t; rfl; rfl; exact nle rfl) | (apply ops_split_f; rfl; rfl; exact nle rfl) | (apply awp_cond; rfl)); all_goals (intro hc; have hp := hc; first | (simp at hp; done) | ((try simp at hp); first | (exfalso; omega) | skip))) | (apply awp_cond_any; rfl))
      all_goals try (exfalso; first | omega | (simp_all; done))
      all_goals (apply fin_bool; rfl; simp; done)
    · have hL3 : applyL t ⟨2, g, [], x, 0⟩ 9 = [] := by unfold applyL; rw [if_neg z3]
      rw [hL3] at h3
      generalize applyE t ⟨2, g, [], x, 0⟩ 9 = E3 at *
      refine acall_intro Tryd.func7 rfl _ Tryd.ntmps7 (Nat.le_of_ble_eq_true rfl) _ Tryd.results7 0 rfl rfl ?_
      repeat' (first | refine walk ?_ | (first | (apply to_call Tryd.func25 rfl rfl; intro hIsFn; refine o_callf hIsFn (a_treeBegun ..) ?_; skip) | (apply to_call Tryd.func21 rfl rfl; intro hIsFn; refine o_callp hIsFn (h1 ..) ?_) | (apply to_call Tryd.func21 rfl rfl; intro hIsFn; refine o_callp hIsFn (h2 ..) ?_) | (apply to_call Tryd.func21 rfl rfl; intro hIsFn; refine o_callp hIsFn (h3 ..) ?_) | (apply to_call Tryd.func20 rfl rfl; intro hIsFn; refine o_callp hIsFn (hlt ..) ?_)) | ((first | (apply ops_split_t; rfl; rfl; exact nle rfl) | (apply ops_split_f; rfl; rfl; exact nle rfl) | (apply awp_cond; rfl)); all_goals (intro hc; have hp := hc; first | (simp at hp; done) | ((try simp at hp); first | (exfalso; omega) | skip))) | (apply awp_cond_any; rfl))
      all_goals try (exfalso; first | omega | (simp_all; done))
      all_goals (apply fin_bool; rfl; simp; done)
  · have hL1 : applyL t ⟨3, f, g, [], -1⟩ 9 = [] := by unfold applyL; rw [if_neg z1]
    rw [hL1] at h1
    generalize applyE t ⟨3, f, g, [], -1⟩ 9 = E1 at *
    by_cases z3 : applyE t ⟨2, g, [], x, 0⟩ 9 = 0
    · obtain ⟨hRt, _, hr3, hL3, hRu3⟩ := apply_zero z3
      obtain ⟨hr4, hD4⟩ := back_gone hRt hr3
      obtain ⟨z4, hL4⟩ := apply_of hRu3 (by decide) hr4
      have h4 : AFn C.P 21 [entAV (doneL t ⟨2, g, [], x, 0⟩ 9), .agg [.v (.int .i64 4), .v (str g), .v (str []), .v (str []), .v (.int .i64 9)], .v (.int .i64 10)] _ := a_apply (doneL t ⟨2, g, [], x, 0⟩ 9) ⟨4, g, [], [], 9⟩ 10 hRu3.big ⟨l2, by simp, by simp⟩
      have hse := a_sameEntries t t hb.len hb.len
      rw [z3, hL3] at h3
      rw [z4, hL4, hD4] at h4
      rw [show decide (t = t) = true from by simp] at hse
      generalize doneL t ⟨2, g, [], x, 0⟩ 9 = u3 at *
      refine acall_intro Tryd.func7 rfl _ Tryd.ntmps7 (Nat.le_of_ble_eq_true rfl) _ Tryd.results7 0 rfl rfl ?_
      repeat' (first | refine walk ?_ | (first | (apply to_call Tryd.func25 rfl rfl; intro hIsFn; refine o_callf hIsFn (a_treeBegun ..) ?_; skip) | (apply to_call Tryd.func21 rfl rfl; intro hIsFn; refine o_callp hIsFn (h1 ..) ?_) | (apply to_call Tryd.func21 rfl rfl; intro hIsFn; refine o_callp hIsFn (h3 ..) ?_) | (apply to_call Tryd.func21 rfl rfl; intro hIsFn; refine o_callp hIsFn (h4 ..) ?_) | (apply to_call Tryd.func29 rfl rfl; intro hIsFn; refine o_callp hIsFn (hse ..) ?_)) | ((first | (apply ops_split_t; rfl; rfl; exact nle rfl) | (apply ops_split_f; rfl; rfl; exact nle rfl) | (apply awp_cond; rfl)); all_goals (intro hc; have hp := hc; first | (simp at hp; done) | ((try simp at hp); first | (exfalso; omega) | skip))) | (apply awp_cond_any; rfl))
      all_goals try (exfalso; first | omega | (simp_all; done))
      all_goals (apply fin_bool; rfl; simp; done)
    · have hL3 : applyL t ⟨2, g, [], x, 0⟩ 9 = [] := by unfold applyL; rw [if_neg z3]
      rw [hL3] at h3
      generalize applyE t ⟨2, g, [], x, 0⟩ 9 = E3 at *
      refine acall_intro Tryd.func7 rfl _ Tryd.ntmps7 (Nat.le_of_ble_eq_true rfl) _ Tryd.results7 0 rfl rfl ?_
      repeat' (first | refine walk ?_ | (first | (apply to_call Tryd.func25 rfl rfl; intro hIsFn; refine o_callf hIsFn (a_treeBegun ..) ?_; skip) | (apply to_call Tryd.func21 rfl rfl; intro hIsFn; refine o_callp hIsFn (h1 ..) ?_) | (apply to_call Tryd.func21 rfl rfl; intro hIsFn; refine o_callp hIsFn (h3 ..) ?_)) | ((first | (apply ops_split_t; rfl; rfl; exact nle rfl) | (apply ops_split_f; rfl; rfl; exact nle rfl) | (apply awp_cond; rfl)); all_goals (intro hc; have hp := hc; first | (simp at hp; done) | ((try simp at hp); first | (exfalso; omega) | skip))) | (apply awp_cond_any; rfl))
      all_goals try (exfalso; first | omega | (simp_all; done))
      all_goals (apply fin_bool; rfl; simp; done)
theorem law_tback_all (ys : List AV) (h : TyAllW C.tab 140737488355328 [22, 9, 9, 9] ys) : AFn C.P 7 ys (.v (.bool true)) := by
  obtain ⟨_, _, rfl, h0, _, _, rfl, h1, _, _, rfl, h2, _, _, rfl, h3, rfl⟩ := h
  obtain ⟨a, rfl, ha⟩ := tyv_ents h0
  obtain ⟨b, rfl, hb⟩ := tyv_str h1
  obtain ⟨c, rfl, hc⟩ := tyv_str h2
  obtain ⟨d, rfl, hd⟩ := tyv_str h3
  exact law_tback a b c d ha hb hc hd
end Go.Proofs.YtpeenheeakhlgaaDoor
