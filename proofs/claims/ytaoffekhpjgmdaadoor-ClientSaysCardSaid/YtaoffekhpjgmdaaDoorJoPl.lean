/- Journals, plain. -/
import Derived.Test.YtaoffekhpjgmdaaDoorLkA
import Derived.Test.YtaoffekhpjgmdaaDoorTu8
import Derived.Test.YtaoffekhpjgmdaaDoorJk
set_option linter.unusedSimpArgs false
set_option linter.unnecessarySimpa false
set_option linter.unusedVariables false
namespace Go.Proofs.YtaoffekhpjgmdaaDoor
open Go.Op

structure Com where
  num : Int
  key : Str
  chs : List Chg
  deriving DecidableEq
structure Jou where
  base : List Ent
  first : Int
  coms : List Com
  deriving DecidableEq
/-- What is wrong with a commit by itself; n: the number that it must have. -/
def comErr (n : Int) (c : Com) : Int := if ¬ c.num = n then 4 else if 1000000 < c.num then 3 else if isKey c.key = false ∨ c.chs = [] then 1 else 0
/-- Commits, one after the other: the tree, the error. -/
def comsR : Int → List Ent → List Com → List Ent × Int
  | _, t, [] => (t, 0)
  | n, t, c :: l => if ¬ comErr n c = 0 then ([], comErr n c) else if ¬ (allT c.num t c.chs).2.2 = 0 then ([], (allT c.num t c.chs).2.2) else comsR (n + 1) (allT c.num t c.chs).1 l
/-- The trees that come of them. -/
def comsT : List Ent → List Com → List (List Ent)
  | _, [] => []
  | t, c :: l => (allT c.num t c.chs).1 :: comsT (allT c.num t c.chs).1 l
def keysOk (l : List Com) : Bool := decide ((l.map Com.key).Nodup)
def jouE (j : Jou) : Int :=
  if ¬ treeErr j.base = 0 then treeErr j.base else if j.first < 1 ∨ 1000000 < j.first then 3 else if 30 < j.coms.length then 2
  else if ¬ (comsR j.first j.base j.coms).2 = 0 then (comsR j.first j.base j.coms).2 else if keysOk j.coms = true then 0 else 6
def nowT (j : Jou) : List Ent := (comsR j.first j.base j.coms).1

theorem allR_right {v : Int} (hv : isVer v = true) : ∀ {l : List Chg} {t : List Ent} {n : Nat}, Right t → (allR v t l n).2.2 = 0 → Right (allR v t l n).1
  | [], t, n, h, _ => h
  | c :: l, t, n, h, hz => by
    unfold allR at hz ⊢
    by_cases hr : rawE t c v = 0
    · rw [if_pos hr] at hz ⊢
      exact allR_right hv (done_right h hv hr) hz
    · rw [if_neg hr] at hz
      exact absurd hz hr
theorem allT_eq2 {v : Int} {t : List Ent} {l : List Chg} (h : Right t) : allT v t l = allW t l v := by
  rw [allT_eq, if_neg (by rw [right_iff.2 h]; simp)]
theorem allT_right {v : Int} {t : List Ent} {l : List Chg} (h : Right t) (hz : (allT v t l).2.2 = 0) : Right (allT v t l).1 := by
  rw [allT_eq2 h] at hz ⊢
  unfold allW at hz ⊢
  split at hz
  · exact absurd hz (by decide)
  · split at hz
    · exact absurd hz (by decide)
    · rename_i h1 h2
      rw [if_neg h1, if_neg h2]
      cases l with
      | nil => exact h
      | cons c l =>
        refine allR_right ?_ h hz
        cases hv : isVer v with
        | true => rfl
        | false => exact absurd ⟨hv, by simp⟩ h2
theorem comsR_right : ∀ {l : List Com} {n : Int} {t : List Ent}, Right t → (comsR n t l).2 = 0 → Right (comsR n t l).1
  | [], _, _, h, _ => h
  | c :: l, n, t, h, hz => by
    unfold comsR at hz ⊢
    split at hz
    · rename_i h1; exact absurd hz h1
    · split at hz
      · rename_i h1 h2; exact absurd hz h2
      · rename_i h1 h2
        rw [if_neg h1, if_neg h2]
        exact comsR_right (allT_right h (by simpa using h2)) hz
theorem comsR_cons {n : Int} {t : List Ent} {c : Com} {l : List Com} (hz : (comsR n t (c :: l)).2 = 0) : comErr n c = 0 ∧ (allT c.num t c.chs).2.2 = 0 ∧ comsR n t (c :: l) = comsR (n + 1) (allT c.num t c.chs).1 l := by
  unfold comsR at hz
  split at hz
  · rename_i h1; exact absurd hz h1
  · split at hz
    · rename_i h1 h2; exact absurd hz h2
    · rename_i h1 h2
      refine ⟨by simpa using h1, by simpa using h2, ?_⟩
      rw [comsR, if_neg h1, if_neg h2]
theorem comErr_zero {n : Int} {c : Com} (h : comErr n c = 0) : c.num = n ∧ n ≤ 1000000 ∧ isKey c.key = true ∧ ¬ c.chs = [] := by
  unfold comErr at h
  split at h
  · exact absurd h (by decide)
  · split at h
    · exact absurd h (by decide)
    · split at h
      · exact absurd h (by decide)
      · rename_i h1 h2 h3
        have h1 : c.num = n := by simpa using h1
        refine ⟨h1, by omega, ?_, fun e => h3 (.inr e)⟩
        cases hk : isKey c.key with
        | true => rfl
        | false => exact absurd (.inl hk) h3
theorem comsR_drop {n : Int} {t : List Ent} {l : List Com} {i : Nat} (h : i < l.length) : comsR n t (l.drop i) = if ¬ comErr n l[i] = 0 then ([], comErr n l[i]) else if ¬ (allT l[i].num t l[i].chs).2.2 = 0 then ([], (allT l[i].num t l[i].chs).2.2) else comsR (n + 1) (allT l[i].num t l[i].chs).1 (l.drop (i + 1)) := by
  rw [List.drop_eq_getElem_cons h]; rfl
theorem comsT_drop {t : List Ent} {l : List Com} {i : Nat} (h : i < l.length) : comsT t (l.drop i) = (allT l[i].num t l[i].chs).1 :: comsT (allT l[i].num t l[i].chs).1 (l.drop (i + 1)) := by
  rw [List.drop_eq_getElem_cons h]; rfl
theorem comsT_len : ∀ (l : List Com) (t : List Ent), (comsT t l).length = l.length
  | [], _ => rfl
  | c :: l, t => by simp [comsT, comsT_len l]
theorem comsT_right : ∀ {l : List Com} {n : Int} {t : List Ent}, Right t → (comsR n t l).2 = 0 → ∀ u, u ∈ comsT t l → Right u
  | [], _, _, _, _, u, hu => by cases hu
  | c :: l, n, t, h, hz, u, hu => by
    obtain ⟨h1, h2, h3⟩ := comsR_cons hz
    rw [h3] at hz
    rcases List.mem_cons.1 hu with rfl | hu
    · exact allT_right h h2
    · exact comsT_right (allT_right h h2) hz u hu
theorem comsT_last : ∀ {l : List Com} {n : Int} {t : List Ent}, (comsR n t l).2 = 0 → (t :: comsT t l).getLast (by simp) = (comsR n t l).1
  | [], _, _, _ => rfl
  | c :: l, n, t, hz => by
    obtain ⟨h1, h2, h3⟩ := comsR_cons hz
    rw [h3] at hz ⊢
    rw [← comsT_last hz]
    rfl
theorem comsR_app : ∀ {a b : List Com} {n : Int} {t : List Ent}, (comsR n t a).2 = 0 → comsR n t (a ++ b) = comsR (n + a.length) (comsR n t a).1 b
  | [], b, n, t, _ => by simp [comsR]
  | c :: a, b, n, t, hz => by
    obtain ⟨h1, h2, h3⟩ := comsR_cons hz
    rw [h3] at hz ⊢
    have : (c :: a) ++ b = c :: (a ++ b) := rfl
    rw [this, comsR, if_neg (by simp [h1]), if_neg (by simp [h2]), comsR_app hz]
    congr 1
    simp; omega
/-- The parts of a run that has no error. -/
theorem comsR_take : ∀ {l : List Com} {n : Int} {t : List Ent}, (comsR n t l).2 = 0 → ∀ i, (comsR n t (l.take i)).2 = 0
  | [], _, _, _, i => by simp [comsR]
  | c :: l, n, t, hz, 0 => rfl
  | c :: l, n, t, hz, i + 1 => by
    obtain ⟨h1, h2, h3⟩ := comsR_cons hz
    rw [h3] at hz
    rw [List.take_succ_cons, comsR, if_neg (by simp [h1]), if_neg (by simp [h2])]
    exact comsR_take hz i
theorem comsR_num : ∀ {l : List Com} {n : Int} {t : List Ent}, (comsR n t l).2 = 0 → ∀ i (h : i < l.length), l[i].num = n + i ∧ n + i ≤ 1000000 ∧ isKey l[i].key = true ∧ ¬ l[i].chs = []
  | c :: l, n, t, hz, 0, h => by
    have := comErr_zero (comsR_cons hz).1
    simpa using this
  | c :: l, n, t, hz, i + 1, h => by
    obtain ⟨h1, h2, h3⟩ := comsR_cons hz
    rw [h3] at hz
    have := comsR_num hz i (by simpa using h)
    simp only [List.getElem_cons_succ]
    refine ⟨by omega, by omega, this.2.2⟩
theorem comsR_err : ∀ {l : List Com} {n : Int} {t : List Ent}, ¬ (comsR n t l).2 = 0 → (comsR n t l).1 = []
  | [], _, _, h => absurd rfl h
  | c :: l, n, t, h => by
    unfold comsR at h ⊢
    split
    · rfl
    · split
      · rfl
      · rename_i h1 h2
        rw [if_neg h1, if_neg h2] at h
        exact comsR_err h
theorem allT_few {v : Int} {t : List Ent} {l : List Chg} (h : Right t) (hz : (allT v t l).2.2 = 0) : l.length ≤ 20 := by
  rw [allT_eq2 h] at hz
  unfold allW at hz
  split at hz
  · exact absurd hz (by decide)
  · omega
theorem comsR_few : ∀ {l : List Com} {n : Int} {t : List Ent}, Right t → (comsR n t l).2 = 0 → ∀ c, c ∈ l → c.chs.length ≤ 20
  | c :: l, n, t, h, hz, d, hd => by
    obtain ⟨h1, h2, h3⟩ := comsR_cons hz
    rw [h3] at hz
    rcases List.mem_cons.1 hd with rfl | hd
    · exact allT_few h h2
    · exact comsR_few (allT_right h h2) hz d hd
structure JRight (j : Jou) : Prop where
  base : Right j.base
  lo : 1 ≤ j.first
  hi : j.first ≤ 1000000
  len : j.coms.length ≤ 30
  run : (comsR j.first j.base j.coms).2 = 0
  keys : (j.coms.map Com.key).Nodup
theorem jright_iff {j : Jou} : jouE j = 0 ↔ JRight j := by
  unfold jouE
  constructor
  · intro h
    split at h
    · rename_i h1; exact absurd h h1
    · split at h
      · exact absurd h (by decide)
      · split at h
        · exact absurd h (by decide)
        · split at h
          · rename_i h1; exact absurd h h1
          · split at h
            · rename_i h1 h2 h3 h4 h5
              exact ⟨right_iff.1 (by simpa using h1), by omega, by omega, by omega, by simpa using h4, of_decide_eq_true h5⟩
            · exact absurd h (by decide)
  · intro h
    rw [if_neg (by simp [right_iff.2 h.base]), if_neg (by have := h.lo; have := h.hi; omega), if_neg (by have := h.len; omega), if_neg (by simp [h.run]), if_pos (by simp [keysOk, h.keys])]
theorem JRight.now {j : Jou} (h : JRight j) : Right (nowT j) := comsR_right h.base h.run
def lastN (j : Jou) : Int := j.first + j.coms.length - 1
def noJou : Jou := ⟨[], 0, []⟩
def isK (k : Str) (c : Com) : Bool := decide (c.key = k)
def nextN (j : Jou) : Int := lastN j + 1
theorem nextN_eq (j : Jou) : nextN j = j.first + j.coms.length := by unfold nextN lastN; omega
/-- A commit at the end, the first one gone into the base where there are too many. -/
def pushJ (j : Jou) (c : Com) : Jou :=
  if 30 < j.coms.length + 1 then ⟨match j.coms with | [] => j.base | d :: _ => (allT j.first j.base d.chs).1, j.first + 1, (j.coms ++ [c]).drop 1⟩ else ⟨j.base, j.first, j.coms ++ [c]⟩
def commitW (j : Jou) (key : Str) (l : List Chg) : Jou × Int × Int :=
  if isKey key = false then (noJou, 0, 1) else match j.coms.find? (isK key) with
  | some c => (j, c.num, 0)
  | none => if l = [] then (noJou, 0, 1) else if 1000000 < nextN j then (noJou, 0, 3) else if ¬ (allT (nextN j) (nowT j) l).2.2 = 0 then (noJou, 0, (allT (nextN j) (nowT j) l).2.2)
    else (pushJ j ⟨nextN j, key, l⟩, nextN j, 0)
def commitR (j : Jou) (key : Str) (l : List Chg) : Jou × Int × Int := if ¬ jouE j = 0 then (noJou, 0, jouE j) else commitW j key l
structure Pag where
  reset : Bool
  tree : List Ent
  coms : List Com
  cur : Int
  more : Bool
  deriving DecidableEq
def noPag : Pag := ⟨false, [], [], 0, false⟩
def partC (j : Jou) (cursor most : Int) : List Com := (j.coms.drop (cursor - j.first + 1).toNat).take most.toNat
def readW (j : Jou) (cursor most : Int) : Pag × Int :=
  if most < 1 ∨ 10 < most ∨ cursor < 0 then (noPag, 3) else if lastN j < cursor then (noPag, 5) else if cursor < j.first - 1 then (⟨true, nowT j, [], lastN j, false⟩, 0)
  else (⟨false, [], partC j cursor most, cursor + (partC j cursor most).length, decide (cursor + (partC j cursor most).length < lastN j)⟩, 0)
def readR (j : Jou) (cursor most : Int) : Pag × Int := if ¬ jouE j = 0 then (noPag, jouE j) else readW j cursor most
def isCur (n : Int) : Bool := decide (0 ≤ n) && decide (n ≤ 1000000)
/-- Commits made one after the other, whatever their numbers. -/
def folR : List Ent → List Com → List Ent × Int
  | t, [] => (t, 0)
  | t, c :: l => if ¬ (allT c.num t c.chs).2.2 = 0 then ([], (allT c.num t c.chs).2.2) else folR (allT c.num t c.chs).1 l
def numsOk : Int → List Com → Bool
  | _, [] => true
  | n, c :: l => decide (c.num = n) && numsOk (n + 1) l
def followR (t : List Ent) (cursor : Int) (p : Pag) : List Ent × Int × Int :=
  if ¬ treeErr t = 0 then ([], 0, treeErr t) else if isCur cursor = false then ([], 0, 3)
  else if p.reset = true then (if ¬ treeErr p.tree = 0 then ([], 0, treeErr p.tree) else if isCur p.cur = false then ([], 0, 3) else if ¬ p.coms = [] ∨ p.more = true then ([], 0, 1) else (p.tree, p.cur, 0))
  else if ¬ p.tree = [] then ([], 0, 1) else if 10 < p.coms.length then ([], 0, 2) else if numsOk (cursor + 1) p.coms = false then ([], 0, 4) else if ¬ p.cur = cursor + p.coms.length then ([], 0, 4)
  else if ¬ (folR t p.coms).2 = 0 then ([], 0, (folR t p.coms).2) else ((folR t p.coms).1, p.cur, 0)
theorem folR_drop {t : List Ent} {l : List Com} {i : Nat} (h : i < l.length) : folR t (l.drop i) = if ¬ (allT l[i].num t l[i].chs).2.2 = 0 then ([], (allT l[i].num t l[i].chs).2.2) else folR (allT l[i].num t l[i].chs).1 (l.drop (i + 1)) := by
  rw [List.drop_eq_getElem_cons h]; rfl
theorem numsOk_drop {n : Int} {l : List Com} {i : Nat} (h : i < l.length) : numsOk n (l.drop i) = (decide (l[i].num = n) && numsOk (n + 1) (l.drop (i + 1))) := by
  rw [List.drop_eq_getElem_cons h]; rfl
theorem folR_err : ∀ {l : List Com} {t : List Ent}, ¬ (folR t l).2 = 0 → (folR t l).1 = []
  | [], _, h => absurd rfl h
  | c :: l, t, h => by
    unfold folR at h ⊢
    split
    · rfl
    · rename_i h1
      rw [if_neg h1] at h
      exact folR_err h
theorem folR_right : ∀ {l : List Com} {t : List Ent}, Right t → (folR t l).2 = 0 → Right (folR t l).1
  | [], _, h, _ => h
  | c :: l, t, h, hz => by
    unfold folR at hz ⊢
    split at hz
    · rename_i h1; exact absurd hz h1
    · rename_i h1
      rw [if_neg h1]
      exact folR_right (allT_right h (by simpa using h1)) hz
/-- What a run makes, following makes. -/
theorem folR_run : ∀ {l : List Com} {n : Int} {t : List Ent}, (comsR n t l).2 = 0 → folR t l = comsR n t l
  | [], _, _, _ => rfl
  | c :: l, n, t, hz => by
    obtain ⟨h1, h2, h3⟩ := comsR_cons hz
    rw [h3] at hz ⊢
    rw [folR, if_neg (by simp [h2]), folR_run hz]
theorem numsOk_run : ∀ {l : List Com} {n : Int} {t : List Ent}, (comsR n t l).2 = 0 → numsOk n l = true
  | [], _, _, _ => rfl
  | c :: l, n, t, hz => by
    obtain ⟨h1, h2, h3⟩ := comsR_cons hz
    rw [h3] at hz
    rw [numsOk, numsOk_run hz, (comErr_zero h1).1]
    simp
theorem find_key {l : List Com} {k : Str} (h : l.find? (isK k) = none) : ¬ k ∈ l.map Com.key := fun hm => by
  obtain ⟨c, hc, rfl⟩ := List.mem_map.1 hm
  have := List.find?_eq_none.1 h c hc
  simp [isK] at this
/-- What was committed goes on being right, and says the same by the same key. -/
theorem push_right {j : Jou} {key : Str} {l : List Chg} (h : JRight j) (hk : isKey key = true) (hf : j.coms.find? (isK key) = none) (hl : ¬ l = []) (hn : nextN j ≤ 1000000) (hz : (allT (nextN j) (nowT j) l).2.2 = 0) : JRight (pushJ j ⟨nextN j, key, l⟩) := by
  have hrun : (comsR j.first j.base (j.coms ++ [(⟨nextN j, key, l⟩ : Com)])).2 = 0 := by
    rw [comsR_app h.run]
    have h0 : comErr (j.first + j.coms.length) ⟨nextN j, key, l⟩ = 0 := by
      unfold comErr
      rw [nextN_eq] at hn ⊢
      rw [if_neg (by simp), if_neg (by simp; omega), if_neg (by simp [hk, hl])]
    rw [comsR, if_neg (by simp [h0]), if_neg (by rw [show (comsR j.first j.base j.coms).1 = nowT j from rfl]; simp only; rw [hz]; simp)]
    rfl
  have hkeys : ((j.coms ++ [(⟨nextN j, key, l⟩ : Com)]).map Com.key).Nodup := by
    rw [List.map_append, List.nodup_append]
    refine ⟨h.keys, by simp, fun a ha b hb => ?_⟩
    have hb : b = key := by simpa using hb
    subst hb
    rintro rfl
    exact find_key hf ha
  unfold pushJ
  split
  · rename_i h31
    cases hc : j.coms with
    | nil => rw [hc] at h31; simp at h31
    | cons d r =>
      rw [hc] at hrun hkeys
      obtain ⟨h1, h2, h3⟩ := comsR_cons (c := d) (l := r ++ [⟨nextN j, key, l⟩]) hrun
      rw [List.cons_append, h3] at hrun
      have hd := comErr_zero h1
      have hlen := h.len
      rw [hc] at hlen
      refine ⟨?_, ?_, ?_, ?_, ?_, ?_⟩
      · show Right (allT j.first j.base d.chs).1
        rw [← hd.1]; exact allT_right h.base h2
      · have := h.lo; show 1 ≤ j.first + 1; omega
      · show j.first + 1 ≤ 1000000
        have : nextN j = j.first + (j.coms.length : Int) := nextN_eq j
        rw [hc] at this
        simp at this; omega
      · simp at hlen ⊢; omega
      · show (comsR (j.first + 1) (allT j.first j.base d.chs).1 (((d :: r) ++ [_]).drop 1)).2 = 0
        rw [List.cons_append, List.drop_succ_cons, List.drop_zero]
        rw [← hd.1]
        rw [← hd.1] at hrun
        exact hrun
      · rw [List.cons_append, List.drop_succ_cons, List.drop_zero]
        rw [List.cons_append, List.map_cons, List.nodup_cons] at hkeys
        exact hkeys.2
  · refine ⟨h.base, h.lo, h.hi, ?_, hrun, hkeys⟩
    simp; omega
end Go.Proofs.YtaoffekhpjgmdaaDoor
