/- Clients, plain: what a client sends, made on what it knows, comes to what it shows. -/
import Derived.Test.YtaoffekhpjgmdaaDoorClPl
import Derived.Test.YtaoffekhpjgmdaaDoorTw4
import Derived.Test.YtaoffekhpjgmdaaDoorTsC
import Derived.Test.YtaoffekhpjgmdaaDoorJoPl
set_option linter.unusedSimpArgs false
set_option linter.unnecessarySimpa false
set_option linter.unusedVariables false
namespace Go.Proofs.YtaoffekhpjgmdaaDoor
open Go.Ab Go.RowKit Go.Op

variable {a b : List Ent} {v cur : Int}

theorem allR_app (v : Int) : ∀ (l k : List Chg) (t u : List Ent) (n m : Nat), allR v t l n = (u, m, 0) → allR v t (l ++ k) n = allR v u k m
  | [], k, t, u, n, m, h => by
    have h : (t, n, (0 : Int)) = (u, m, 0) := h
    injection h with h1 h2
    injection h2 with h2 h3
    subst h1; subst h2
    rfl
  | c :: l, k, t, u, n, m, h => by
    have h : (if rawE t c v = 0 then allR v (doneL t c v) l (n + 1) else ([], n, rawE t c v)) = (u, m, 0) := h
    show (if rawE t c v = 0 then allR v (doneL t c v) (l ++ k) (n + 1) else ([], n, rawE t c v)) = allR v u k m
    by_cases h1 : rawE t c v = 0
    · rw [if_pos h1] at h ⊢
      exact allR_app v l k _ u _ m h
    · rw [if_neg h1] at h
      injection h with h2 h3
      injection h3 with h3 h4
      exact absurd h4 h1
theorem allR_one {t : List Ent} {c : Chg} {n : Nat} (h : rawE t c v = 0) : allR v t [c] n = (doneL t c v, n + 1, 0) := by
  show (if rawE t c v = 0 then allR v (doneL t c v) [] (n + 1) else ([], n, rawE t c v)) = _
  rw [if_pos h]; rfl
theorem allR_prefix (v : Int) : ∀ (l k : List Chg) (t : List Ent) (n : Nat), (allR v t (l ++ k) n).2.2 = 0 → ∃ u, allR v t l n = (u, n + l.length, 0)
  | [], k, t, n, h => ⟨t, rfl⟩
  | c :: l, k, t, n, h => by
    have h : (if rawE t c v = 0 then allR v (doneL t c v) (l ++ k) (n + 1) else ([], n, rawE t c v)).2.2 = 0 := h
    by_cases h1 : rawE t c v = 0
    · rw [if_pos h1] at h
      obtain ⟨u, hu⟩ := allR_prefix v l k _ _ h
      refine ⟨u, ?_⟩
      show (if rawE t c v = 0 then allR v (doneL t c v) l (n + 1) else ([], n, rawE t c v)) = _
      rw [if_pos h1, hu]
      simp only [List.length_cons]
      congr 2
      omega
    · rw [if_neg h1] at h
      exact absurd h h1
theorem reb_done {t : List Ent} {c : Chg} : doneL t (reb cur c) v = doneL t c v := rfl
theorem reb_raw {t : List Ent} {c : Chg} (hb : 0 ≤ cur ∧ cur ≤ 1000000) (hc : c.base = -1) (hs : ∀ x, x ∈ t → inB x.path c.path = true → x.ver ≤ cur) (h : rawE t c v = 0) : rawE t (reb cur c) v = 0 := by
  unfold rawE at h ⊢
  have h1 : chgErr c = 0 := by
    by_cases h1 : chgErr c = 0
    · exact h1
    · rw [if_pos h1] at h; exact absurd h h1
  rw [if_neg (by simp [h1])] at h
  have h2 : mayErr t c = 0 := by
    by_cases h2 : mayErr t c = 0
    · exact h2
    · rw [if_pos h2] at h; exact absurd h h2
  rw [if_neg (by simp [h2])] at h
  have hc1 : chgErr (reb cur c) = 0 := by
    unfold chgErr at h1 ⊢
    have e1 : (reb cur c).kind = c.kind := rfl
    have e2 : (reb cur c).path = c.path := rfl
    have e3 : (reb cur c).to = c.to := rfl
    have e4 : chgRest (reb cur c) = chgRest c := by
      unfold chgRest
      have e5 : (reb cur c).text = c.text := rfl
      have e6 : (reb cur c).base = cur := rfl
      rw [e1, e3, e5, e6, hc]
      split
      · rfl
      · split
        · rfl
        · rw [if_neg (by omega), if_neg (by omega)]
    rw [e1, e2, e3, e4]
    exact h1
  have hm1 : mayErr t (reb cur c) = 0 := by
    unfold mayErr at h2 ⊢
    have e1 : folderErr t (parentOf (goalOf (reb cur c))) = folderErr t (parentOf (goalOf c)) := rfl
    have e2 : isErr t (reb cur c) = isErr t c := rfl
    have e3 : mvErr t (reb cur c) = mvErr t c := rfl
    have e4 : staleErr t (reb cur c) = 0 := by
      unfold staleErr
      rw [if_neg]
      rintro ⟨_, h5⟩
      obtain ⟨x, hx, h6⟩ := List.any_eq_true.1 h5
      have h6 : (decide (cur < x.ver) && inB x.path c.path) = true := h6
      simp only [Bool.and_eq_true, decide_eq_true_eq] at h6
      have := hs x hx h6.2
      omega
    rw [e1, e2, e3, e4]
    split
    · rename_i h7; rw [if_pos h7] at h2; exact h2
    · rename_i h7
      rw [if_neg h7] at h2
      split
      · rename_i h8; rw [if_pos h8] at h2; exact h2
      · rename_i h8
        rw [if_neg h8] at h2
        split
        · rename_i h9; rw [if_pos h9] at h2; exact h2
        · rfl
  rw [if_neg (by simp [hc1]), if_neg (by simp [hm1])]
  exact h
theorem all_dels (h : Right a) (hcur : 0 ≤ cur ∧ cur ≤ 1000000) (hver : ∀ x, x ∈ a → x.ver ≤ cur) :
    ∀ i, i ≤ a.length → allR v a (((gonesOf (a.take i) b).map delChg).map (reb cur)) 0 = (leftOf a (gonesOf (a.take i) b), (gonesOf (a.take i) b).length, 0) := by
  intro i
  induction i with
  | zero => intro _; rw [show gonesOf (a.take 0) b = [] from rfl, left_nil]; rfl
  | succ i ih =>
    intro hi
    have hp := ih (by omega)
    have hlt : i < a.length := by omega
    have hgs : gonesOf (a.take (i + 1)) b = if ((gonesOf (a.take i) b).any fun p => inB a[i].path p) = true then gonesOf (a.take i) b else if differs b a[i] = true then gonesOf (a.take i) b ++ [a[i].path] else gonesOf (a.take i) b := gones_succ hlt
    rw [hgs]
    split
    · exact hp
    · split
      · rename_i h1 h2
        have h1 : ((gonesOf (a.take i) b).any fun p => inB a[i].path p) = false := by simpa using h1
        obtain ⟨h3, h4⟩ := del_okV h v (List.getElem_mem hlt) h1
        have h5 := reb_raw (v := v) hcur (show (delChg a[i].path).base = -1 from rfl) (fun x hx _ => hver x (left_mem hx)) h3
        rw [List.map_append, List.map_append, allR_app v _ _ _ _ _ _ hp, List.map_cons, List.map_nil, List.map_cons, List.map_nil, allR_one h5, reb_done, h4, List.length_append]
        rfl
      · exact hp
theorem inB_less {p q : Str} (h : inB p q = true) : bytesLess p q = false := by
  obtain ⟨r, rfl, hr⟩ := inB_iff.1 h
  cases r with
  | nil => rw [List.append_nil]; exact bl_irr _
  | cons c r => exact bl_asym (bl_prefix q c r)
theorem all_news (ha : Right a) (hb : Right b) (hv : isVer v = true) (hcur : 0 ≤ cur ∧ cur ≤ 1000000) (hver : ∀ x, x ∈ a → x.ver ≤ cur) (n : Nat) :
    ∀ i, i ≤ b.length → allR v (leftOf a (gonesOf a b)) ((((b.take i).filter fun x => !stays a x).map mkChg).map (reb cur)) n = (withNews v (leftOf a (gonesOf a b)) ((b.take i).filter fun x => !stays a x), n + ((b.take i).filter fun x => !stays a x).length, 0) ∧ Right (withNews v (leftOf a (gonesOf a b)) ((b.take i).filter fun x => !stays a x)) := by
  intro i
  induction i with
  | zero => intro _; exact ⟨rfl, left_right ha _⟩
  | succ i ih =>
    intro hi
    obtain ⟨hp, hR⟩ := ih (by omega)
    have hlt : i < b.length := by omega
    cases hs : stays a b[i] with
    | true =>
      have : (b.take (i + 1)).filter (fun x => !stays a x) = (b.take i).filter (fun x => !stays a x) := by
        rw [List.take_succ_eq_append_getElem hlt, List.filter_append]; simp [hs]
      rw [this]; exact ⟨hp, hR⟩
    | false =>
      obtain ⟨h3, h4⟩ := news_step ha hb hv hlt hs hR
      have hsub : ((b.take i).filter fun x => !stays a x).Sublist b := List.filter_sublist.trans (List.take_sublist _ _)
      have hT := left_rising (g := gonesOf a b) ha.rise
      have h5 : rawE (withNews v (leftOf a (gonesOf a b)) ((b.take i).filter fun x => !stays a x)) (reb cur (mkChg b[i])) v = 0 := by
        refine reb_raw hcur rfl (fun x hx hin => ?_) h3
        have hl := look_mem hR.rise hx
        rw [look_with hb.rise hT hsub] at hl
        cases hz : look ((b.take i).filter fun x => !stays a x) x.path with
        | none =>
          rw [hz] at hl
          exact hver x (left_mem (look_some hl).1)
        | some z =>
          exfalso
          obtain ⟨hz1, hz2⟩ := look_some hz
          obtain ⟨j, hj, rfl⟩ := List.getElem_of_mem (List.mem_filter.1 hz1).1
          rw [List.getElem_take] at hz2
          have hj2 : j < i := by simp at hj; omega
          have hlt2 := rising_ltE hb.rise j i (by omega) hlt hj2
          have hin : inB x.path b[i].path = true := hin
          rw [← hz2] at hin
          rw [inB_less hin] at hlt2
          cases hlt2
      have : (b.take (i + 1)).filter (fun x => !stays a x) = (b.take i).filter (fun x => !stays a x) ++ [b[i]] := by
        rw [List.take_succ_eq_append_getElem hlt, List.filter_append]; simp [hs]
      refine ⟨?_, ?_⟩
      · rw [← h4, this, List.map_append, List.map_append, allR_app v _ _ _ _ _ _ hp, List.map_cons, List.map_nil, List.map_cons, List.map_nil, allR_one h5, reb_done, List.length_append]
        rfl
      · rw [← h4]; exact done_right hR hv h3
theorem all_back (ha : Right a) (hb : Right b) (hv : isVer v = true) (hcur : 0 ≤ cur ∧ cur ≤ 1000000) (hver : ∀ x, x ∈ a → x.ver ≤ cur) :
    ∃ t, allR v a ((rawD a b).map (reb cur)) 0 = (t, (rawD a b).length, 0) ∧ Right t ∧ likeT t b = true := by
  have h1 := all_dels (v := v) (b := b) ha hcur hver a.length (Nat.le_refl _)
  rw [List.take_length] at h1
  obtain ⟨h2, h3⟩ := all_news ha hb hv hcur hver (gonesOf a b).length b.length (Nat.le_refl _)
  rw [List.take_length] at h2 h3
  obtain ⟨t, h4, h5, h6⟩ := patch_back ha hb hv
  have g1 := patch_dels (b := b) ha hv a.length (Nat.le_refl _)
  rw [List.take_length] at g1
  obtain ⟨g2, _⟩ := patch_news ha hb hv b.length (Nat.le_refl _)
  rw [List.take_length] at g2
  have g3 : patchR v a (rawD a b) = (withNews v (leftOf a (gonesOf a b)) (b.filter fun x => !stays a x), 0) := by
    unfold rawD
    rw [patch_app v _ _ _ _ g1, g2]
  rw [g3] at h4
  injection h4 with h4 _
  subst h4
  refine ⟨_, ?_, h5, h6⟩
  have hD : rawD a b = (gonesOf a b).map delChg ++ (b.filter fun x => !stays a x).map mkChg := rfl
  rw [hD, List.map_append, allR_app v _ _ _ _ _ _ h1, h2, List.length_append, List.length_map, List.length_map]
theorem says_ok {c : Cli} (hR : CRight c) (hver : ∀ x, x ∈ c.base → x.ver ≤ c.cursor) (hm : ¬ c.cursor = 1000000) :
    ∃ u, allT (c.cursor + 1) c.base (sendL c) = (u, (sendL c).length, 0) ∧ Right u ∧ (likeT u c.mine = true ∨ (sendL c).length = 20) := by
  have ha := right_iff.1 hR.base
  have hb := right_iff.1 hR.mine
  have hcur := hR.cur
  have hv : isVer (c.cursor + 1) = true := by unfold isVer; simp; omega
  obtain ⟨t, h1, h2, h3⟩ := all_back ha hb hv hcur hver
  have hl : (sendL c).length ≤ 20 := by unfold sendL; simp; omega
  have hT : allT (c.cursor + 1) c.base (sendL c) = allR (c.cursor + 1) c.base (sendL c) 0 := by
    unfold allT
    rw [if_neg (by simp [hR.base]), if_neg (by omega), if_neg (by simp [hv])]
  rw [hT]
  by_cases h20 : (rawD c.base c.mine).length ≤ 20
  · have hS : sendL c = (rawD c.base c.mine).map (reb c.cursor) := by unfold sendL; rw [List.take_of_length_le h20]
    rw [hS]
    exact ⟨t, by rw [h1, List.length_map], h2, .inl h3⟩
  · have hS : (rawD c.base c.mine).map (reb c.cursor) = sendL c ++ ((rawD c.base c.mine).drop 20).map (reb c.cursor) := by
      unfold sendL
      rw [← List.map_append, List.take_append_drop]
    rw [hS] at h1
    obtain ⟨u, hu⟩ := allR_prefix (c.cursor + 1) (sendL c) (((rawD c.base c.mine).drop 20).map (reb c.cursor)) c.base 0 (by rw [h1])
    rw [Nat.zero_add] at hu
    have hRu : Right u := by
      have := allR_right hv (l := sendL c) (t := c.base) (n := 0) ha (by rw [hu])
      rw [hu] at this
      exact this
    refine ⟨u, hu, hRu, .inr ?_⟩
    unfold sendL
    simp
    omega
end Go.Proofs.YtaoffekhpjgmdaaDoor
