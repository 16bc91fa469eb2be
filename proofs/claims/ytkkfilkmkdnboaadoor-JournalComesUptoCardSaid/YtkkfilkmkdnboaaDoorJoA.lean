/- Journals, 10: plain: what comes is not too great; who asks again asks once. -/
import Derived.Test.YtkkfilkmkdnboaaDoorTyJ
set_option linter.unusedSimpArgs false
set_option linter.unnecessarySimpa false
set_option linter.unusedVariables false
namespace Go.Proofs.YtkkfilkmkdnboaaDoor

theorem noJou_big : JBig noJou := ⟨⟨by simp [noJou], by simp [noJou]⟩, ⟨by simp [noJou], by simp [noJou]⟩⟩
theorem MBig.sub {a b : List Com} (h : MBig b) (hs : ∀ c, c ∈ a → c ∈ b) (hl : a.length ≤ b.length) : MBig a := ⟨fun c hc => h.each c (hs c hc), Nat.le_trans hl h.len⟩
theorem push_big {j : Jou} {c : Com} (h : MBig j.coms) (hr : JRight (pushJ j c)) (hc : c.small) : JBig (pushJ j c) := by
  have hl := hr.len
  refine ⟨hr.base.big, ⟨fun d hd => ?_, by omega⟩⟩
  have hm : d ∈ j.coms ++ [c] := by
    unfold pushJ at hd
    split at hd
    · exact List.mem_of_mem_drop hd
    · exact hd
  rcases List.mem_append.1 hm with hm | hm
  · exact h.each d hm
  · rw [List.mem_singleton.1 hm]; exact hc
/-- What a commit comes to. -/
theorem commit_cases {j : Jou} {key : Str} {l : List Chg} : (∃ e, ¬ e = 0 ∧ commitR j key l = (noJou, 0, e)) ∨ (JRight j ∧ isKey key = true ∧ ((∃ c, j.coms.find? (isK key) = some c ∧ commitR j key l = (j, c.num, 0)) ∨ (j.coms.find? (isK key) = none ∧ JRight (pushJ j ⟨nextN j, key, l⟩) ∧ commitR j key l = (pushJ j ⟨nextN j, key, l⟩, nextN j, 0)))) := by
  unfold commitR
  by_cases hz : jouE j = 0
  · rw [if_neg (by simp [hz])]
    have hJ := jright_iff.1 hz
    unfold commitW
    cases hk : isKey key with
    | false => exact .inl ⟨1, by decide, by rw [if_pos rfl]⟩
    | true =>
      rw [if_neg (by decide)]
      cases hf : j.coms.find? (isK key) with
      | some c => exact .inr ⟨hJ, (by first | rfl | trivial), .inl ⟨c, (by first | rfl | trivial), rfl⟩⟩
      | none =>
        simp only
        by_cases h1 : l = []
        · exact .inl ⟨1, by decide, by rw [if_pos h1]⟩
        · rw [if_neg h1]
          by_cases h2 : 1000000 < nextN j
          · exact .inl ⟨3, by decide, by rw [if_pos h2]⟩
          · rw [if_neg h2]
            by_cases h3 : (allT (nextN j) (nowT j) l).2.2 = 0
            · rw [if_neg (by simp [h3])]
              exact .inr ⟨hJ, (by first | rfl | trivial), .inr ⟨(by first | rfl | trivial), push_right hJ hk hf h1 (by omega) h3, rfl⟩⟩
            · rw [if_pos h3]
              exact .inl ⟨_, h3, rfl⟩
  · rw [if_pos hz]
    exact .inl ⟨_, hz, rfl⟩
theorem commit_big {j : Jou} {key : Str} {l : List Chg} (hb : JBig j) (hcb : CBig l) (hk : key.length ≤ 1000000000) : JBig (commitR j key l).1 := by
  rcases commit_cases (j := j) (key := key) (l := l) with ⟨e, _, h⟩ | ⟨hJ, _, ⟨c, _, h⟩ | ⟨_, hR, h⟩⟩
  · rw [h]; exact noJou_big
  · rw [h]; exact hb
  · rw [h]; exact push_big hb.coms hR ⟨hk, hcb⟩
theorem find_push {j : Jou} {c : Com} (hf : j.coms.find? (isK c.key) = none) : (pushJ j c).coms.find? (isK c.key) = some c := by
  have hc : isK c.key c = true := by simp [isK]
  unfold pushJ
  split
  · rename_i h
    cases hj : j.coms with
    | nil => rw [hj] at h; simp at h
    | cons d r =>
      rw [hj] at hf
      rw [List.find?_cons] at hf
      split at hf
      · cases hf
      · show ((d :: r ++ [c]).drop 1).find? _ = _
        rw [List.cons_append, List.drop_succ_cons, List.drop_zero, List.find?_append, hf]
        simp [hc]
  · show (j.coms ++ [c]).find? _ = _
    rw [List.find?_append, hf]
    simp [hc]
/-- Who asks again by a key asks once. -/
theorem commit_again {j x : Jou} {key : Str} {l m : List Chg} {n e : Int} (h : commitR j key l = (x, n, e)) : (¬ e = 0 ∧ n = 0) ∨ (e = 0 ∧ jouE x = 0 ∧ commitR x key m = (x, n, 0)) := by
  rcases commit_cases (j := j) (key := key) (l := l) with ⟨e', he, h'⟩ | ⟨hJ, hk, ⟨c, hf, h'⟩ | ⟨hf, hR, h'⟩⟩
  · rw [h'] at h
    injection h with h1 h2; injection h2 with h2 h3
    exact .inl ⟨h3 ▸ he, h2.symm⟩
  · rw [h'] at h
    injection h with h1 h2; injection h2 with h2 h3
    subst h1; subst h2; subst h3
    refine .inr ⟨rfl, jright_iff.2 hJ, ?_⟩
    unfold commitR commitW
    rw [if_neg (by simp [jright_iff.2 hJ]), if_neg (by simp [hk]), hf]
  · rw [h'] at h
    injection h with h1 h2; injection h2 with h2 h3
    subst h1; subst h2; subst h3
    refine .inr ⟨rfl, jright_iff.2 hR, ?_⟩
    have := find_push (c := ⟨nextN j, key, l⟩) hf
    unfold commitR commitW
    rw [if_neg (by simp [jright_iff.2 hR]), if_neg (by simp [hk]), this]
theorem read_big {j : Jou} {cursor most : Int} (hb : JBig j) : PBig (readR j cursor most).1 := by
  have h0 : PBig noPag := ⟨⟨by simp [noPag], by simp [noPag]⟩, ⟨by simp [noPag], by simp [noPag]⟩⟩
  unfold readR
  by_cases hz : jouE j = 0
  · rw [if_neg (by simp [hz])]
    have hJ := jright_iff.1 hz
    unfold readW
    split
    · exact h0
    · split
      · exact h0
      · split
        · exact ⟨hJ.now.big, ⟨by simp, by simp⟩⟩
        · refine ⟨⟨by simp, by simp⟩, hb.coms.sub (fun c hc => List.mem_of_mem_drop (List.mem_of_mem_take hc)) ?_⟩
          show (partC j cursor most).length ≤ _
          unfold partC
          simp; omega
  · rw [if_pos hz]; exact h0
theorem follow_bad {t : List Ent} {cursor : Int} {p : Pag} : ¬ (followR t cursor p).2.2 = 0 → (followR t cursor p).1 = [] := by
  unfold followR
  (repeat' split) <;> intro h <;> first | rfl | exact absurd rfl h
theorem follow_len {t : List Ent} {cursor : Int} {p : Pag} (hb : PBig p) : (followR t cursor p).1.length ≤ 1000000000 := by
  unfold followR
  by_cases h1 : treeErr t = 0
  · rw [if_neg (by simp [h1])]
    split
    · simp
    · split
      · split
        · simp
        · split
          · simp
          · split
            · simp
            · exact hb.tree.len
      · split
        · simp
        · split
          · simp
          · split
            · simp
            · split
              · simp
              · split
                · simp
                · rename_i h2
                  have := (folR_right (right_iff.1 h1) (by simpa using h2)).len
                  simp only; omega
  · rw [if_pos h1]; simp
end Go.Proofs.YtkkfilkmkdnboaaDoor
