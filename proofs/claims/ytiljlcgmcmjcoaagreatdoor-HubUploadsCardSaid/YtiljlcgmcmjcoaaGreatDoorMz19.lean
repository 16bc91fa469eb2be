import Derived.Test.YtiljlcgmcmjcoaaGreatDoorMz18
import Derived.Test.YtiljlcgmcmjcoaaGreatDoorMz12
/- Hubs, plain: a text that was uploaded, and finished, is a file. -/
set_option linter.unusedSimpArgs false
set_option linter.unnecessarySimpa false
set_option linter.unusedVariables false
namespace Go.Proofs.YtiljlcgmcmjcoaaGreatDoor
open Go.Op

/-- Somebody's upload, the last one, and how far it came. -/
structure UpSt (u : Upl) (A : List Sess) (n : Int) (who : Str) (T : Str) (size till now : Int) : Prop where
  sess : u.sess = A ++ [⟨n, who, T, size, till⟩]
  swept : sweptL u.sess now = u.sess
  beg : beginErr u now = 0
  name : isName who = true
  low : ∀ a, a ∈ A → a.number < n
  till : till = now + u.lasts
theorem upst_mine {u : Upl} {A : List Sess} {n : Int} {who T : Str} {size till now : Int} (h : UpSt u A n who T size till now) : mineErr u who n now = 0 ∧ mineK u who n now = A.length ∧ mineS u who n now = ⟨n, who, T, size, till⟩ := by
  have hi : idxOf (isMine who n) (sweptL u.sess now) = A.length := by
    rw [h.swept, h.sess]
    exact idxOf_snoc (fun a ha => by
      have := h.low a ha
      have hne : ¬ a.number = n := by omega
      unfold isMine
      rw [decide_eq_false hne, Bool.and_false]) (by simp [isMine])
  have hk : mineK u who n now = A.length := by unfold mineK; rw [hi]; rfl
  refine ⟨?_, hk, ?_⟩
  · unfold mineErr
    rw [if_pos h.beg, if_pos h.name, hi, if_neg (by omega)]
  · unfold mineS
    rw [hk, h.swept, h.sess, List.getElem?_append_right (Nat.le_refl _)]
    simp
theorem openErr_name {u : Upl} {who : Str} {size now : Int} (h : openErr u who size now = 0) : isName who = true := (openErr_get h).2.1
theorem upst_open {u : Upl} {who : Str} {size now : Int} (h : openErr u who size now = 0) (h0 : 0 ≤ now ∧ now ≤ 1099511627776) : UpSt (openU u who size now) (sweptL u.sess now) u.next who [] size (now + u.lasts) now :=
  ⟨rfl, open_swept h, open_begins h now h0.1 h0.2, openErr_name h, fun a ha => old_num h ha, rfl⟩
theorem againB_end (T X : Str) : againB T (T.length : Int) X = decide ([] = X) := by
  unfold againB withinB
  simp
theorem upst_app {u : Upl} {A : List Sess} {n : Int} {who T : Str} {size till now : Int} (h : UpSt u A n who T size till now) {X : Str} (hf : (T.length : Int) + X.length ≤ size) :
    ∃ u', appR u who n (T.length : Int) X now = (u', ((T ++ X).length : Int), 0) ∧ UpSt u' A n who (T ++ X) size till now ∧ u'.lasts = u.lasts := by
  obtain ⟨m1, m2, m3⟩ := upst_mine h
  have hs4 := (mine_get m1).2.2.2.1
  rw [m2, m3] at hs4
  have hE : appE ⟨n, who, T, size, till⟩ (T.length : Int) X = 0 := by
    unfold appE
    rw [againB_end]
    split
    · rfl
    · rw [if_pos rfl, if_neg (by dsimp only; omega)]
  have hS : appS ⟨n, who, T, size, till⟩ (T.length : Int) X (now + u.lasts) = ⟨n, who, T ++ X, size, till⟩ := by
    unfold appS
    rw [againB_end]
    split
    · rename_i hX
      have : X = [] := (of_decide_eq_true hX).symm
      subst this
      rw [List.append_nil]
    · rw [← h.till]
  have hset : (sweptL u.sess now).set A.length (⟨n, who, T ++ X, size, till⟩ : Sess) = A ++ [⟨n, who, T ++ X, size, till⟩] := by
    rw [h.swept, h.sess, List.set_append_right _ _ (Nat.le_refl _)]
    simp
  have hp := append_passes h.beg hs4 hE
  rw [hS, hset] at hp
  refine ⟨{ u with sess := A ++ [⟨n, who, T ++ X, size, till⟩] }, ?_, ⟨rfl, ?_, ?_, h.name, h.low, h.till⟩, rfl⟩
  · unfold appR appW
    rw [if_pos m1, m2, m3, if_pos hE, hS, hset]
  · show sweptL (A ++ [_]) now = A ++ [_]
    have hk := h.swept
    rw [h.sess] at hk
    unfold sweptL at hk ⊢
    rw [List.filter_append] at hk ⊢
    have h1 : A.filter (keeps now) = A := by
      have hA := List.filter_eq_self.1 (show (A ++ [(⟨n, who, T, size, till⟩ : Sess)]).filter (keeps now) = A ++ [⟨n, who, T, size, till⟩] by rw [List.filter_append]; exact hk)
      exact List.filter_eq_self.2 fun a ha => hA a (List.mem_append_left _ ha)
    have h2 : keeps now (⟨n, who, T ++ X, size, till⟩ : Sess) = true := by
      have hA := List.filter_eq_self.1 (show (A ++ [(⟨n, who, T, size, till⟩ : Sess)]).filter (keeps now) = A ++ [⟨n, who, T, size, till⟩] by rw [List.filter_append]; exact hk)
      have := hA ⟨n, who, T, size, till⟩ (by simp)
      unfold keeps at this ⊢
      exact this
    rw [h1]
    simp [h2]
  · have := (begin_get h.beg).2
    unfold beginErr
    rw [if_pos hp, if_pos this]
theorem upst_fin {u : Upl} {A : List Sess} {n : Int} {who T : Str} {till now : Int} (h : UpSt u A n who T (T.length : Int) till now) : ∃ u', finR u who n now = (u', T, 0) := by
  obtain ⟨m1, m2, m3⟩ := upst_mine h
  refine ⟨finU u now (mineK u who n now), ?_⟩
  unfold finR
  rw [if_pos m1, m3, if_neg (by dsimp only; omega)]
theorem upst_qry {u : Upl} {A : List Sess} {n : Int} {who T : Str} {size till now : Int} (h : UpSt u A n who T size till now) : qryR u who n now = ((T.length : Int), 0) := by
  obtain ⟨m1, m2, m3⟩ := upst_mine h
  unfold qryR
  rw [if_pos m1, m3]
theorem serve_open {h : Hub} {r : Rqt} (hk : r.kind = 4) : serveW h r = if isName r.who = false then (h, errA 1) else upsH h (opnR h.ups r.who r.number h.now) := by
  unfold serveW; rw [hk]; simp
theorem serve_append {h : Hub} {r : Rqt} (hk : r.kind = 5) : serveW h r = if isName r.who = false then (h, errA 1) else upsH h (appR h.ups r.who r.number r.offset r.text h.now) := by
  unfold serveW; rw [hk]; simp
theorem serve_query {h : Hub} {r : Rqt} (hk : r.kind = 6) : serveW h r = if isName r.who = false then (h, errA 1) else qryH h r := by
  unfold serveW; rw [hk]; simp
theorem serve_finish {h : Hub} {r : Rqt} (hk : r.kind = 7) : serveW h r = if isName r.who = false then (h, errA 1) else if rightG h.gras r.folder r.who < 2 then (h, errA 9) else finH h r := by
  unfold serveW editH; rw [hk]; simp
/-- What a commit of one text makes. -/
theorem now_push {j : Jou} (h : JRight j) {key : Str} {l : List Chg} (hk : isKey key = true) (hl : ¬ l = []) (hn : nextN j ≤ 1000000) (hz : (allT (nextN j) (nowT j) l).2.2 = 0) : nowT (pushJ j ⟨nextN j, key, l⟩) = (allT (nextN j) (nowT j) l).1 := by
  have h0 : comErr (j.first + j.coms.length) ⟨nextN j, key, l⟩ = 0 := by
    unfold comErr
    rw [nextN_eq] at hn ⊢
    rw [if_neg (by simp), if_neg (by simp; omega), if_neg (by simp [hk, hl])]
  have hrun : comsR j.first j.base (j.coms ++ [(⟨nextN j, key, l⟩ : Com)]) = ((allT (nextN j) (nowT j) l).1, 0) := by
    rw [comsR_app h.run]
    rw [comsR, if_neg (by simp [h0]), if_neg (by rw [show (comsR j.first j.base j.coms).1 = nowT j from rfl]; simp only; rw [hz]; simp)]
    rfl
  unfold pushJ
  split
  · rename_i h31
    cases hc : j.coms with
    | nil => rw [hc] at h31; simp at h31
    | cons d r =>
      rw [hc] at hrun
      have hz2 : (comsR j.first j.base (d :: (r ++ [(⟨nextN j, key, l⟩ : Com)]))).2 = 0 := by
        rw [show d :: (r ++ [(⟨nextN j, key, l⟩ : Com)]) = (d :: r) ++ [(⟨nextN j, key, l⟩ : Com)] from rfl, hrun]
      obtain ⟨c1, c2, c3⟩ := comsR_cons hz2
      show (comsR (j.first + 1) (allT j.first j.base d.chs).1 (((d :: r) ++ [(⟨nextN j, key, l⟩ : Com)]).drop 1)).1 = _
      have hd : d.num = j.first := (comErr_zero c1).1
      rw [hd] at c3
      rw [show ((d :: r) ++ [(⟨nextN j, key, l⟩ : Com)]).drop 1 = r ++ [(⟨nextN j, key, l⟩ : Com)] from rfl, ← c3]
      rw [show d :: (r ++ [(⟨nextN j, key, l⟩ : Com)]) = (d :: r) ++ [(⟨nextN j, key, l⟩ : Com)] from rfl, hrun]
  · show (comsR j.first j.base (j.coms ++ [(⟨nextN j, key, l⟩ : Com)])).1 = _
    rw [hrun]
theorem all_write {t : List Ent} {p x : Str} {v b : Int} (hz : (allT v t [⟨2, p, [], x, b⟩]).2.2 = 0) (ht : Right t) : (allT v t [⟨2, p, [], x, b⟩]).1 = putT t ⟨p, false, x, v⟩ ∧ pathErr p = 0 := by
  unfold allT at hz ⊢
  by_cases h1 : treeErr t = 0
  case neg => rw [if_pos h1] at hz; exact absurd hz h1
  rw [if_neg (fun e => e h1), if_neg (by simp)] at hz ⊢
  by_cases h2 : isVer v = false
  · rw [if_pos ⟨h2, by simp⟩] at hz; exact absurd hz (show ¬ ((3 : Int) = 0) from by decide)
  rw [if_neg (fun e => h2 e.1)] at hz ⊢
  unfold allR at hz ⊢
  by_cases h3 : rawE t ⟨2, p, [], x, b⟩ v = 0
  · rw [if_pos h3]
    refine ⟨rfl, ?_⟩
    unfold rawE at h3
    by_cases h4 : chgErr ⟨2, p, [], x, b⟩ = 0
    · exact (chgErr_zero h4).2.2.1
    · rw [if_pos h4] at h3; exact absurd h3 h4
  · rw [if_neg h3] at hz; exact absurd hz h3
/-- A text that came whole is a file behind its commit. -/
theorem fin_commit {h : Hub} (hr : HRight h) {r : Rqt} (hk : r.kind = 7) {u : Upl} {x : Str} (hf : finR h.ups r.who r.number h.now = (u, x, 0)) (hb : r.base = -1) (hkey : ∀ s, s ∈ h.fols → ∀ c, c ∈ s.jou.coms → ¬ c.key = r.key) (he : (serveW h r).2.err = 0) :
    ∃ t, treeW (serveW h r).1 r.folder = (t, 0) ∧ look t r.name = some ⟨r.name, false, x, (serveW h r).2.num⟩ ∧ Right t ∧ pathErr r.name = 0 := by
  have e1 := serve_finish (h := h) hk
  by_cases n1 : isName r.who = false
  · rw [if_pos n1] at e1; rw [e1] at he; exact absurd he (show ¬ ((1 : Int) = 0) from by decide)
  rw [if_neg n1] at e1
  by_cases n2 : rightG h.gras r.folder r.who < 2
  · rw [if_pos n2] at e1; rw [e1] at he; exact absurd he (show ¬ ((9 : Int) = 0) from by decide)
  rw [if_neg n2] at e1
  unfold finH at e1
  rw [hf] at e1
  simp only [if_true] at e1
  unfold comH at e1
  obtain ⟨j, hj, hJ⟩ := hr.at_ (f := r.folder) (w := r.who) (by omega)
  rw [hj] at e1
  dsimp only at e1
  by_cases h0 : (commitW j r.key [⟨2, r.name, [], x, r.base⟩]).2.2 = 0
  case neg => rw [if_neg h0] at e1; rw [e1] at he; exact absurd he h0
  rw [if_pos h0] at e1
  have hfind : j.coms.find? (isK r.key) = none := by
    rw [List.find?_eq_none]
    intro c hc
    have := hkey _ (jouAt_some hj).1 c hc
    simp [isK, this]
  have hc : ∃ n : Int, n = 0 ∧ isKey r.key = true ∧ nextN j ≤ 1000000 ∧ (allT (nextN j) (nowT j) [⟨2, r.name, [], x, r.base⟩]).2.2 = 0 ∧ commitW j r.key [⟨2, r.name, [], x, r.base⟩] = (pushJ j ⟨nextN j, r.key, [⟨2, r.name, [], x, r.base⟩]⟩, nextN j, 0) := by
    refine ⟨(0 : Int), rfl, ?_⟩
    unfold commitW at h0 ⊢
    by_cases q1 : isKey r.key = false
    · rw [if_pos q1] at h0; exact absurd h0 (show ¬ ((1 : Int) = 0) from by decide)
    rw [if_neg q1, hfind] at h0 ⊢
    simp only [List.cons_ne_nil, if_false, reduceCtorEq] at h0 ⊢
    by_cases q2 : 1000000 < nextN j
    · rw [if_pos q2] at h0; exact absurd h0 (show ¬ ((3 : Int) = 0) from by decide)
    rw [if_neg q2] at h0 ⊢
    by_cases q3 : (allT (nextN j) (nowT j) [⟨2, r.name, [], x, r.base⟩]).2.2 = 0
    · rw [if_neg (fun e => e q3)]
      exact ⟨by simpa using q1, by omega, q3, rfl⟩
    · rw [if_pos q3] at h0; exact absurd h0 q3
  obtain ⟨_, _, c1, c2, c3, c4⟩ := hc
  rw [c4] at e1
  have hR : JRight (pushJ j ⟨nextN j, r.key, [⟨2, r.name, [], x, r.base⟩]⟩) := push_right hJ c1 hfind (by simp) c2 c3
  have hnp := now_push hJ c1 (by simp) c2 c3
  obtain ⟨w1, w2⟩ := all_write c3 hJ.now
  rw [w1] at hnp
  refine ⟨putT (nowT j) ⟨r.name, false, x, nextN j⟩, ?_, ?_, ?_, w2⟩
  · rw [e1]
    unfold treeW
    dsimp only
    rw [jouAt_setJ, if_pos rfl, hj]
    simp only [Option.map_some]
    rw [hnp]
  · rw [e1]
    dsimp only
    rw [look_put hJ.now.rise]
    simp
  · rw [← hnp]; exact hR.now
end Go.Proofs.YtiljlcgmcmjcoaaGreatDoor
