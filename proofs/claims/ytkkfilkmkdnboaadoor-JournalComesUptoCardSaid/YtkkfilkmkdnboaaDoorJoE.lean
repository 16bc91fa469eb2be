/- Journals in the abstract layer, 14: laws, of what is handed in. -/
import Derived.Test.YtkkfilkmkdnboaaDoorJoD
set_option linter.unusedSimpArgs false
set_option linter.unnecessarySimpa false
set_option linter.unusedVariables false
namespace Go.Proofs.YtkkfilkmkdnboaaDoor
open Go.Ab Go.RowKit

theorem law_jcommits_all (ys : List AV) (h : TyAllW C.tab 1000000000 [25, 9, 26] ys) : AFn C.P 3 ys (.v (.bool true)) := by
  obtain ⟨_, _, rfl, h0, _, _, rfl, h1, _, _, rfl, h2, rfl⟩ := h
  obtain ⟨j, rfl, hj⟩ := tyv_jou h0
  obtain ⟨s, rfl, hs⟩ := tyv_str h1
  obtain ⟨l, rfl, hl⟩ := tyv_chgs h2
  exact law_jcommits j s l hj hl hs
theorem law_jreads_all (ys : List AV) (h : TyAllW C.tab 1000000000 [25, 3, 3] ys) : AFn C.P 4 ys (.v (.bool true)) := by
  obtain ⟨_, _, rfl, h0, _, _, rfl, h1, _, _, rfl, h2, rfl⟩ := h
  obtain ⟨j, rfl, hj⟩ := tyv_jou h0
  obtain ⟨a, rfl, _⟩ := tyv_int h1
  obtain ⟨b, rfl, _⟩ := tyv_int h2
  exact law_jreads j a b hj
theorem law_jonce_all (ys : List AV) (h : TyAllW C.tab 1000000000 [25, 9, 26, 26] ys) : AFn C.P 5 ys (.v (.bool true)) := by
  obtain ⟨_, _, rfl, h0, _, _, rfl, h1, _, _, rfl, h2, _, _, rfl, h3, rfl⟩ := h
  obtain ⟨j, rfl, hj⟩ := tyv_jou h0
  obtain ⟨s, rfl, hs⟩ := tyv_str h1
  obtain ⟨l, rfl, hl⟩ := tyv_chgs h2
  obtain ⟨m, rfl, hm⟩ := tyv_chgs h3
  exact law_jonce j s l m hj hl hm hs
theorem law_jchecks_all (ys : List AV) (h : TyAllW C.tab 1000000000 [25] ys) : AFn C.P 6 ys (.v (.bool true)) := by
  obtain ⟨_, _, rfl, h0, rfl⟩ := h
  obtain ⟨j, rfl, hj⟩ := tyv_jou h0
  exact law_jchecks j hj
theorem law_jfollows_all (ys : List AV) (h : TyAllW C.tab 1000000000 [22, 3, 35] ys) : AFn C.P 7 ys (.v (.bool true)) := by
  obtain ⟨_, _, rfl, h0, _, _, rfl, h1, _, _, rfl, h2, rfl⟩ := h
  obtain ⟨t, rfl, ht⟩ := tyv_ents h0
  obtain ⟨a, rfl, _⟩ := tyv_int h1
  obtain ⟨p, rfl, hp⟩ := tyv_page h2
  exact law_jfollows t a p ht hp
theorem law_jresets_all (ys : List AV) (h : TyAllW C.tab 1000000000 [25, 3, 22] ys) : AFn C.P 8 ys (.v (.bool true)) := by
  obtain ⟨_, _, rfl, h0, _, _, rfl, h1, _, _, rfl, h2, rfl⟩ := h
  obtain ⟨j, rfl, hj⟩ := tyv_jou h0
  obtain ⟨a, rfl, ha⟩ := tyv_int h1
  obtain ⟨t, rfl, ht⟩ := tyv_ents h2
  exact law_jresets j a t hj ht (wf_bd ha)
theorem law_jcomes_all (ys : List AV) (h : TyAllW C.tab 1000000000 [25, 3, 3] ys) : AFn C.P 9 ys (.v (.bool true)) := by
  obtain ⟨_, _, rfl, h0, _, _, rfl, h1, _, _, rfl, h2, rfl⟩ := h
  obtain ⟨j, rfl, hj⟩ := tyv_jou h0
  obtain ⟨a, rfl, ha⟩ := tyv_int h1
  obtain ⟨b, rfl, hb⟩ := tyv_int h2
  exact law_jcomes j a b hj (wf_bd ha) (wf_bd hb)
end Go.Proofs.YtkkfilkmkdnboaaDoor
