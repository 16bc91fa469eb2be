import Derived.Test.YtiljlcgmcmjcoaaGreatDoorMz7
import Derived.Test.YtiljlcgmcmjcoaaGreatDoorMz13
import Derived.Test.YtiljlcgmcmjcoaaGreatDoorMz8
import Derived.Test.YtiljlcgmcmjcoaaGreatDoorMz17
/- Hubs, plain: what the document says of them. -/
set_option linter.unusedSimpArgs false
set_option linter.unnecessarySimpa false
set_option linter.unusedVariables false
namespace Go.Proofs.YtiljlcgmcmjcoaaGreatDoor
open Go.Op

structure Fol where
  name : Str
  jou : Jou
structure Hub where
  fols : List Fol
  gras : List Gra
  ups : Upl
  now : Int
structure Ans where
  err : Int
  num : Int
  page : Pag
def newJ : Jou := ⟨[], 1, []⟩
def noHub : Hub := ⟨[], [], noUp, 0⟩
def noAns : Ans := ⟨0, 0, noPag⟩
def errA (e : Int) : Ans := ⟨e, 0, noPag⟩
def folErr (s : Fol) : Int := if isName s.name = true then jouE s.jou else 1
def folLt (a b : Fol) : Bool := bytesLess a.name b.name
def hasF (l : List Fol) (f : Str) : Bool := l.any (fun s => decide (s.name = f))
def toldG (l : List Gra) (f : Str) : Bool := l.any (fun g => decide (g.folder = f))
def matchB (h : Hub) : Bool := h.gras.all (fun g => hasF h.fols g.folder) && h.fols.all (fun s => toldG h.gras s.name)
def hubErr (h : Hub) : Int :=
  if withinB h.now 0 1099511627776 = false then 3
  else if 8 < h.fols.length then 2
  else if ¬ firstErr folErr h.fols = 0 then firstErr folErr h.fols
  else if rising folLt h.fols = false then 4
  else if ¬ graErr h.gras = 0 then graErr h.gras
  else if matchB h = false then 5
  else upErr h.ups
structure HRight (h : Hub) : Prop where
  now : withinB h.now 0 1099511627776 = true
  len : h.fols.length ≤ 8
  each : ∀ s, s ∈ h.fols → isName s.name = true ∧ JRight s.jou
  rise : rising folLt h.fols = true
  gra : graErr h.gras = 0
  told : ∀ g, g ∈ h.gras → hasF h.fols g.folder = true
  known : ∀ s, s ∈ h.fols → toldG h.gras s.name = true
  ups : upErr h.ups = 0
theorem folErr_zero {s : Fol} : folErr s = 0 ↔ isName s.name = true ∧ JRight s.jou := by
  unfold folErr
  by_cases h : isName s.name = true
  · rw [if_pos h, jright_iff]; simp [h]
  · rw [if_neg h]; simp [h]
theorem hright_iff {h : Hub} : hubErr h = 0 ↔ HRight h := by
  unfold hubErr
  constructor
  · intro e
    by_cases h1 : withinB h.now 0 1099511627776 = false
    · rw [if_pos h1] at e; omega
    rw [if_neg h1] at e
    by_cases h2 : 8 < h.fols.length
    · rw [if_pos h2] at e; omega
    rw [if_neg h2] at e
    by_cases h3 : firstErr folErr h.fols = 0
    case neg => rw [if_pos h3] at e; exact absurd e h3
    rw [if_neg (fun q => q h3)] at e
    by_cases h4 : rising folLt h.fols = false
    · rw [if_pos h4] at e; omega
    rw [if_neg h4] at e
    by_cases h5 : graErr h.gras = 0
    case neg => rw [if_pos h5] at e; exact absurd e h5
    rw [if_neg (fun q => q h5)] at e
    by_cases h6 : matchB h = false
    · rw [if_pos h6] at e; omega
    rw [if_neg h6] at e
    have h6 : matchB h = true := by simpa using h6
    unfold matchB at h6
    rw [Bool.and_eq_true, List.all_eq_true, List.all_eq_true] at h6
    exact ⟨by simpa using h1, by omega, fun s hs => folErr_zero.1 (firstErr_zero.1 h3 s hs), by simpa using h4, h5, h6.1, h6.2, e⟩
  · rintro ⟨h1, h2, h3, h4, h5, h6, h7, h8⟩
    have h3 : firstErr folErr h.fols = 0 := firstErr_zero.2 fun s hs => folErr_zero.2 (h3 s hs)
    have h9 : matchB h = true := by
      unfold matchB
      rw [Bool.and_eq_true, List.all_eq_true, List.all_eq_true]
      exact ⟨h6, h7⟩
    rw [if_neg (by rw [h1]; decide), if_neg (by omega), if_neg (fun q => q h3), if_neg (by rw [h4]; decide), if_neg (fun q => q h5), if_neg (by rw [h9]; decide), h8]
theorem rising_pw {α : Type} {lt : α → α → Bool} (htr : ∀ a b c, lt a b = true → lt b c = true → lt a c = true) : ∀ {l : List α}, rising lt l = true ↔ l.Pairwise (fun a b => lt a b = true)
  | [] => by simp [rising]
  | [x] => by simp [rising]
  | x :: y :: l => by
    have ih := rising_pw htr (l := y :: l)
    rw [show rising lt (x :: y :: l) = (lt x y && rising lt (y :: l)) from rfl, Bool.and_eq_true, List.pairwise_cons, ← ih]
    constructor
    · rintro ⟨h1, h2⟩
      refine ⟨fun a ha => ?_, h2⟩
      have h3 := (List.pairwise_cons.1 (ih.1 h2)).1
      rcases List.mem_cons.1 ha with rfl | ha
      · exact h1
      · exact htr _ _ _ h1 (h3 a ha)
    · rintro ⟨h1, h2⟩
      exact ⟨h1 y (List.mem_cons_self ..), h2⟩
theorem rising_fol {l : List Fol} : rising folLt l = true ↔ l.Pairwise (fun a b => folLt a b = true) := rising_pw (lt := folLt) fun a b c h1 h2 => bl_trans (a := a.name) (b := b.name) (c := c.name) h1 h2
theorem fol_nodup {l : List Fol} (h : rising folLt l = true) : (l.map Fol.name).Nodup := by
  rw [List.Nodup, List.pairwise_map]
  refine (rising_fol.1 h).imp fun {a b} hab e => ?_
  have hab : bytesLess a.name b.name = true := hab
  rw [e, bl_irr] at hab
  cases hab
/-- Where a folder of that name stands, or belongs. -/
def posF (l : List Fol) (f : Str) : Nat := (l.takeWhile (fun s => bytesLess s.name f)).length
theorem splitF (f : Str) : ∀ {l : List Fol}, l.Pairwise (fun a b => folLt a b = true) → ∃ A M Z, l = A ++ (M ++ Z) ∧ posF l f = A.length ∧ (∀ a, a ∈ A → bytesLess a.name f = true) ∧ (∀ z, z ∈ Z → bytesLess f z.name = true) ∧ ((∃ x, M = [x] ∧ x.name = f) ∨ (M = [] ∧ hasF l f = false))
  | [], _ => ⟨[], [], [], rfl, rfl, nofun, nofun, .inr ⟨rfl, rfl⟩⟩
  | x :: l, h => by
    obtain ⟨h1, h2⟩ := List.pairwise_cons.1 h
    rcases bl_tri x.name f with ⟨h3, h4, h5⟩ | ⟨h3, h4, h5⟩ | ⟨h3, h4, h5⟩
    · obtain ⟨A, M, Z, e1, e2, e3, e4, e5⟩ := splitF f h2
      refine ⟨x :: A, M, Z, by rw [e1]; rfl, ?_, ?_, e4, ?_⟩
      · unfold posF at e2 ⊢
        rw [List.takeWhile_cons, if_pos h3, List.length_cons, e2, List.length_cons]
      · intro a ha
        rcases List.mem_cons.1 ha with rfl | ha
        · exact h3
        · exact e3 a ha
      · rcases e5 with e5 | ⟨e5, e6⟩
        · exact .inl e5
        · refine .inr ⟨e5, ?_⟩
          show (decide (x.name = f) || hasF l f) = false
          rw [e6, decide_eq_false h5]; rfl
    · refine ⟨[], [x], l, rfl, ?_, nofun, fun z hz => ?_, .inl ⟨x, rfl, h3⟩⟩
      · unfold posF
        rw [List.takeWhile_cons, if_neg (by rw [h4]; decide)]
        try rfl
      · have h6 : bytesLess x.name z.name = true := h1 z hz
        rw [h3] at h6; exact h6
    · have h6 : ∀ z, z ∈ x :: l → bytesLess f z.name = true := fun z hz => by
        rcases List.mem_cons.1 hz with rfl | hz
        · exact h3
        · exact bl_trans h3 (h1 z hz)
      refine ⟨[], [], x :: l, rfl, ?_, nofun, h6, .inr ⟨rfl, ?_⟩⟩
      · unfold posF
        rw [List.takeWhile_cons, if_neg (by rw [h4]; decide)]
        try rfl
      · refine List.any_eq_false.2 fun z hz => ?_
        have h7 := h6 z hz
        simp only [decide_eq_true_eq]
        rintro rfl
        rw [bl_irr] at h7; cases h7
def jouAt (l : List Fol) (f : Str) : Option Jou := (l.find? (fun s => decide (s.name = f))).map Fol.jou
def setJ (l : List Fol) (f : Str) (j : Jou) : List Fol := l.map (fun s => if s.name = f then ⟨s.name, j⟩ else s)
def insF (l : List Fol) (f : Str) : List Fol := l.take (posF l f) ++ ⟨f, newJ⟩ :: l.drop (posF l f)
theorem hasF_iff {l : List Fol} {f : Str} : hasF l f = true ↔ ∃ s, s ∈ l ∧ s.name = f := by
  unfold hasF; rw [List.any_eq_true]; simp
theorem toldG_iff {l : List Gra} {f : Str} : toldG l f = true ↔ ∃ g, g ∈ l ∧ g.folder = f := by
  unfold toldG; rw [List.any_eq_true]; simp
theorem jouAt_none {l : List Fol} {f : Str} : jouAt l f = none ↔ hasF l f = false := by
  unfold jouAt hasF
  rw [Option.map_eq_none_iff, List.find?_eq_none, List.any_eq_false]
theorem jouAt_some {l : List Fol} {f : Str} {j : Jou} (h : jouAt l f = some j) : ⟨f, j⟩ ∈ l ∧ hasF l f = true := by
  unfold jouAt at h
  obtain ⟨s, h1, rfl⟩ := Option.map_eq_some_iff.1 h
  have h2 := List.find?_some h1
  have h3 : s.name = f := by simpa using h2
  subst h3
  exact ⟨List.mem_of_find?_eq_some h1, hasF_iff.2 ⟨s, List.mem_of_find?_eq_some h1, rfl⟩⟩
theorem jouAt_mem {l : List Fol} (h : rising folLt l = true) {s : Fol} (hs : s ∈ l) : jouAt l s.name = some s.jou := by
  unfold jouAt
  cases hf : l.find? (fun x => decide (x.name = s.name)) with
  | none =>
    have := List.find?_eq_none.1 hf s hs
    simp at this
  | some x =>
    have h1 := List.mem_of_find?_eq_some hf
    have h2 : x.name = s.name := by simpa using List.find?_some hf
    obtain ⟨a, ha, rfl⟩ := List.getElem_of_mem h1
    obtain ⟨b, hb, rfl⟩ := List.getElem_of_mem hs
    have := (List.getElem_inj (h₀ := by simpa using ha) (h₁ := by simpa using hb) (fol_nodup h) (i := a) (j := b)).1 (by rw [List.getElem_map, List.getElem_map, h2])
    subst this; rfl
theorem setJ_names (l : List Fol) (f : Str) (j : Jou) : (setJ l f j).map Fol.name = l.map Fol.name := by
  unfold setJ
  rw [List.map_map]
  apply List.map_congr_left
  intro s _
  show (if s.name = f then (⟨s.name, j⟩ : Fol) else s).name = s.name
  split <;> rfl
theorem rising_names {l : List Fol} : rising folLt l = rising bytesLess (l.map Fol.name) := by
  induction l with
  | nil => rfl
  | cons x l ih =>
    cases l with
    | nil => rfl
    | cons y l =>
      rw [show rising folLt (x :: y :: l) = (folLt x y && rising folLt (y :: l)) from rfl, ih]; rfl
theorem setJ_rising {l : List Fol} {f : Str} {j : Jou} : rising folLt (setJ l f j) = rising folLt l := by rw [rising_names, setJ_names, ← rising_names]
theorem hasF_names {l : List Fol} {f : Str} : hasF l f = decide (f ∈ l.map Fol.name) := by
  rw [Bool.eq_iff_iff, hasF_iff, decide_eq_true_iff, List.mem_map]
theorem setJ_has {l : List Fol} {f g : Str} {j : Jou} : hasF (setJ l f j) g = hasF l g := by rw [hasF_names, setJ_names, ← hasF_names]
theorem setJ_mem {l : List Fol} {f : Str} {j : Jou} {s : Fol} (h : s ∈ setJ l f j) : (s = ⟨f, j⟩ ∧ hasF l f = true) ∨ (s ∈ l ∧ ¬ s.name = f) := by
  unfold setJ at h
  obtain ⟨x, hx, rfl⟩ := List.mem_map.1 h
  by_cases he : x.name = f
  · rw [if_pos he, he]
    exact .inl ⟨rfl, hasF_iff.2 ⟨x, hx, he⟩⟩
  · rw [if_neg he]
    exact .inr ⟨hx, he⟩
theorem jouAt_setJ (l : List Fol) (f g : Str) (j : Jou) : jouAt (setJ l f j) g = if g = f then (jouAt l g).map (fun _ => j) else jouAt l g := by
  induction l with
  | nil => unfold jouAt setJ; simp
  | cons x l ih =>
    unfold jouAt at ih ⊢
    rw [show setJ (x :: l) f j = (if x.name = f then (⟨x.name, j⟩ : Fol) else x) :: setJ l f j from rfl, List.find?_cons, List.find?_cons]
    have hn : (if x.name = f then (⟨x.name, j⟩ : Fol) else x).name = x.name := by split <;> rfl
    rw [hn]
    by_cases hg : x.name = g
    · rw [decide_eq_true hg]
      by_cases hf : g = f
      · subst hf; simp [hg]
      · rw [if_neg hf, if_neg (fun e => hf (hg.symm.trans e))]
    · rw [decide_eq_false hg]
      exact ih
theorem setJ_at {l : List Fol} (h : rising folLt l = true) {k : Nat} (hk : k < l.length) {f : Str} (hf : l[k].name = f) (j : Jou) : setJ l f j = l.set k ⟨f, j⟩ := by
  apply List.ext_getElem
  · simp [setJ]
  · intro i h1 h2
    have hi : i < l.length := by simpa [setJ] using h1
    have e : (setJ l f j)[i] = (if l[i].name = f then (⟨l[i].name, j⟩ : Fol) else l[i]) := by simp [setJ]
    rw [List.getElem_set, e]
    by_cases hik : k = i
    · subst hik; rw [if_pos rfl, if_pos hf, hf]
    · rw [if_neg hik, if_neg]
      intro e
      have := (List.getElem_inj (h₀ := by simpa using hk) (h₁ := by simpa using hi) (fol_nodup h) (i := k) (j := i)).1 (by rw [List.getElem_map, List.getElem_map, hf, e])
      exact hik this
theorem posF_le (l : List Fol) (f : Str) : posF l f ≤ l.length := (List.takeWhile_sublist _).length_le
theorem insF_mem {l : List Fol} {f : Str} {s : Fol} : s ∈ insF l f ↔ s = ⟨f, newJ⟩ ∨ s ∈ l := by
  unfold insF
  rw [List.mem_append, List.mem_cons]
  have : s ∈ l ↔ s ∈ l.take (posF l f) ∨ s ∈ l.drop (posF l f) := by rw [← List.mem_append, List.take_append_drop]
  rw [this]
  constructor
  · rintro (h | h | h)
    · exact .inr (.inl h)
    · exact .inl h
    · exact .inr (.inr h)
  · rintro (h | h | h)
    · exact .inr (.inl h)
    · exact .inl h
    · exact .inr (.inr h)
theorem insF_len (l : List Fol) (f : Str) : (insF l f).length = l.length + 1 := by
  unfold insF
  have := posF_le l f
  simp; omega
theorem insF_has {l : List Fol} {f g : Str} : hasF (insF l f) g = true ↔ g = f ∨ hasF l g = true := by
  rw [hasF_iff, hasF_iff]
  constructor
  · rintro ⟨s, hs, rfl⟩
    rcases insF_mem.1 hs with rfl | hs
    · exact .inl rfl
    · exact .inr ⟨s, hs, rfl⟩
  · rintro (rfl | ⟨s, hs, rfl⟩)
    · exact ⟨_, insF_mem.2 (.inl rfl), rfl⟩
    · exact ⟨s, insF_mem.2 (.inr hs), rfl⟩
theorem insF_rising {l : List Fol} {f : Str} (h : rising folLt l = true) (hf : hasF l f = false) : rising folLt (insF l f) = true := by
  have hp := rising_fol.1 h
  obtain ⟨A, M, Z, e1, e2, e3, e4, e5⟩ := splitF f hp
  have hM : M = [] := by
    rcases e5 with ⟨x, rfl, hx⟩ | ⟨e5, _⟩
    · have : hasF l f = true := hasF_iff.2 ⟨x, by rw [e1]; simp, hx⟩
      rw [this] at hf; cases hf
    · exact e5
  subst hM
  rw [List.nil_append] at e1
  have hi : insF l f = A ++ ⟨f, newJ⟩ :: Z := by
    unfold insF
    rw [e2, e1, List.take_left, List.drop_left]
  rw [hi, rising_fol, List.pairwise_append]
  rw [e1, List.pairwise_append] at hp
  refine ⟨hp.1, List.pairwise_cons.2 ⟨fun z hz => e4 z hz, hp.2.1⟩, fun a ha b hb => ?_⟩
  rcases List.mem_cons.1 hb with rfl | hb
  · exact e3 a ha
  · exact hp.2.2 a ha b hb
/-- Uploads, whole. -/
def mineK (u : Upl) (who : Str) (number now : Int) : Nat := (idxOf (isMine who number) (sweptL u.sess now)).toNat
def mineS (u : Upl) (who : Str) (number now : Int) : Sess := ((sweptL u.sess now)[mineK u who number now]?).getD zeroSess
def opnR (u : Upl) (who : Str) (size now : Int) : Upl × Int × Int := if openErr u who size now = 0 then (openU u who size now, u.next, 0) else (noUp, 0, openErr u who size now)
def appW (u : Upl) (k : Nat) (s : Sess) (offset : Int) (text : Str) (now : Int) : Upl × Int × Int :=
  if appE s offset text = 0 then ({ u with sess := (sweptL u.sess now).set k (appS s offset text (now + u.lasts)) }, ((appS s offset text (now + u.lasts)).text.length : Int), 0) else (noUp, 0, appE s offset text)
def appR (u : Upl) (who : Str) (number offset : Int) (text : Str) (now : Int) : Upl × Int × Int :=
  if mineErr u who number now = 0 then appW u (mineK u who number now) (mineS u who number now) offset text now else (noUp, 0, mineErr u who number now)
def qryR (u : Upl) (who : Str) (number now : Int) : Int × Int := if mineErr u who number now = 0 then (((mineS u who number now).text.length : Int), 0) else (0, mineErr u who number now)
def finR (u : Upl) (who : Str) (number now : Int) : Upl × Str × Int :=
  if mineErr u who number now = 0 then (if (mineS u who number now).text.length < (mineS u who number now).size then (noUp, [], 4) else (finU u now (mineK u who number now), (mineS u who number now).text, 0)) else (noUp, [], mineErr u who number now)
def giveR (l : List Gra) (f b w : Str) (r : Int) : List Gra × Int := if giveErr1 l f b w r = 0 then (giveL (setG l f w r) f, giveErr2 (setG l f w r) f) else ([], giveErr1 l f b w r)
/-- What becomes of a hub, and the answer. -/
def upsH (h : Hub) (x : Upl × Int × Int) : Hub × Ans := if x.2.2 = 0 then ({ h with ups := x.1 }, ⟨0, x.2.1, noPag⟩) else (h, errA x.2.2)
def comH (h : Hub) (r : Rqt) (u : Upl) (l : List Chg) : Hub × Ans :=
  match jouAt h.fols r.folder with
  | none => (h, noAns)
  | some j => if (commitW j r.key l).2.2 = 0 then ({ h with fols := setJ h.fols r.folder (commitW j r.key l).1, ups := u }, ⟨0, (commitW j r.key l).2.1, noPag⟩) else (h, errA (commitW j r.key l).2.2)
def createH (h : Hub) (r : Rqt) : Hub × Ans :=
  if makeErr h.gras r.folder r.who = 0 then (if h.fols.length = 8 then (h, errA 2) else ({ h with fols := insF h.fols r.folder, gras := setG h.gras r.folder r.who 3 }, noAns)) else (h, errA (makeErr h.gras r.folder r.who))
def giveH (h : Hub) (r : Rqt) : Hub × Ans :=
  if rightG h.gras r.folder r.who < 1 then (h, errA 9)
  else if (giveR h.gras r.folder r.who r.name r.number).2 = 0 then ({ h with gras := (giveR h.gras r.folder r.who r.name r.number).1 }, noAns) else (h, errA (giveR h.gras r.folder r.who r.name r.number).2)
def pageH (h : Hub) (r : Rqt) : Hub × Ans :=
  if rightG h.gras r.folder r.who < 1 then (h, errA 9) else
  match jouAt h.fols r.folder with
  | none => (h, noAns)
  | some j => if (readW j r.number 10).2 = 0 then (h, ⟨0, 0, (readW j r.number 10).1⟩) else (h, errA (readW j r.number 10).2)
def qryH (h : Hub) (r : Rqt) : Hub × Ans := if (qryR h.ups r.who r.number h.now).2 = 0 then (h, ⟨0, (qryR h.ups r.who r.number h.now).1, noPag⟩) else (h, errA (qryR h.ups r.who r.number h.now).2)
def finH (h : Hub) (r : Rqt) : Hub × Ans :=
  if (finR h.ups r.who r.number h.now).2.2 = 0 then comH h r (finR h.ups r.who r.number h.now).1 [⟨2, r.name, [], (finR h.ups r.who r.number h.now).2.1, r.base⟩] else (h, errA (finR h.ups r.who r.number h.now).2.2)
def editH (h : Hub) (r : Rqt) : Hub × Ans := if rightG h.gras r.folder r.who < 2 then (h, errA 9) else if r.kind = 7 then finH h r else comH h r h.ups r.chs
def serveW (h : Hub) (r : Rqt) : Hub × Ans :=
  if ¬ (1 ≤ r.kind ∧ r.kind ≤ 8) then (h, errA 7)
  else if isName r.who = false then (h, errA 1)
  else if r.kind = 8 then createH h r
  else if r.kind = 3 then giveH h r
  else if r.kind = 2 then pageH h r
  else if r.kind = 4 then upsH h (opnR h.ups r.who r.number h.now)
  else if r.kind = 5 then upsH h (appR h.ups r.who r.number r.offset r.text h.now)
  else if r.kind = 6 then qryH h r
  else editH h r
def serveR (h : Hub) (r : Rqt) : Hub × Ans × Int := if hubErr h = 0 then ((serveW h r).1, (serveW h r).2, 0) else (noHub, noAns, hubErr h)
end Go.Proofs.YtiljlcgmcmjcoaaGreatDoor

/- The types of hubs: what is handed in, told abstractly. -/
set_option linter.unusedSimpArgs false
set_option linter.unusedVariables false
namespace Go.Proofs.YtiljlcgmcmjcoaaGreatDoor
open Go.Ab Go.RowKit

def sessAV (l : List Sess) : AV := .sl false (l.map Sess.row)
def Fol.row (s : Fol) : List AV := [.v (str s.name), entAV s.jou.base, .v (.int .i64 s.jou.first), comAV s.jou.coms]
def folAV (l : List Fol) : AV := .sl false (l.map Fol.row)
def Hub.row (h : Hub) : List AV := [folAV h.fols, graAV h.gras, .sl false (h.ups.sess.map Sess.row), .v (.int .i64 h.ups.next), .v (.int .i64 h.ups.lasts), .v (.int .i64 h.ups.room), .v (.int .i64 h.now)]
def hubAV (h : Hub) : AV := .agg h.row
def Ans.row (a : Ans) : List AV := [.v (.int .i64 a.err), .v (.int .i64 a.num), .v (.bool a.page.reset), entAV a.page.tree, comAV a.page.coms, .v (.int .i64 a.page.cur), .v (.bool a.page.more)]
def ansAV (a : Ans) : AV := .agg a.row
structure Fol.small (s : Fol) : Prop where
  name : s.name.length ≤ 140737488355328
  jou : JBig s.jou
structure FBig (l : List Fol) : Prop where
  each : ∀ s, s ∈ l → s.small
  len : l.length ≤ 140737488355328
structure SBig (l : List Sess) : Prop where
  each : ∀ s, s ∈ l → s.small
  len : l.length ≤ 140737488355328
structure HBig (h : Hub) : Prop where
  fols : FBig h.fols
  gras : GBig h.gras
  sess : SBig h.ups.sess
structure RBig (r : Rqt) : Prop where
  who : r.who.length ≤ 140737488355328
  folder : r.folder.length ≤ 140737488355328
  name : r.name.length ≤ 140737488355328
  key : r.key.length ≤ 140737488355328
  text : r.text.length ≤ 140737488355328
  chs : CBig r.chs
theorem HBig.ups {h : Hub} (hb : HBig h) : UBig h.ups := ⟨fun s hs => Nat.le_trans (hb.sess.each s hs).1 (by decide), fun s hs => (hb.sess.each s hs).2, Nat.le_trans hb.sess.len (by decide)⟩
theorem str_lift {n : Nat} (h : n ≤ 140737488355328) : n ≤ 140737488355328 := Nat.le_trans h (by decide)
theorem tyw_gra {n : Nat} {xs : List AV} (h : TyW C.tab 140737488355328 n 88 xs) : ∃ s : Gra, xs = s.row ∧ s.small := by
  cases n with
  | zero => exact h.elim
  | succ n =>
    obtain ⟨_, _, rfl, h0, _, _, rfl, h1, _, _, rfl, h2, rfl⟩ := (show tiled C.tab 0 _ = some _ → TyFs (TyW C.tab 140737488355328 n) [(0, 9), (1, 9), (2, 3)] xs from h) rfl
    obtain ⟨a0, rfl, l0⟩ := tyw_str h0
    obtain ⟨a1, rfl, l1⟩ := tyw_str h1
    obtain ⟨a2, rfl, _⟩ := tyw_int h2
    exact ⟨⟨a0, a1, a2⟩, rfl, str_lift l0, str_lift l1⟩
theorem tyw_gras0 {n : Nat} {xs : List AV} (h : TyW C.tab 140737488355328 n 23 xs) : ∃ t : List Gra, xs = [graAV t] ∧ GBig t := by
  cases n with
  | zero => exact h.elim
  | succ n =>
    obtain ⟨rows, he, hb, hr⟩ := (show (3 : Nat) ≠ 0 → ∃ rows, xs = [AV.sl false rows] ∧ rows.length * 40 ≤ 140737488355328 ∧ ∀ row, row ∈ rows → TyW C.tab 140737488355328 n 88 row from h) (by decide)
    obtain ⟨l, rfl, hl⟩ := rows_map (f := Gra.row) (ok := Gra.small) (fun row hrow => tyw_gra (hr row hrow))
    refine ⟨l, he, hl, ?_⟩
    simp at hb; omega
theorem tyw_sess {n : Nat} {xs : List AV} (h : TyW C.tab 140737488355328 n 78 xs) : ∃ s : Sess, xs = s.row ∧ s.small := by
  cases n with
  | zero => exact h.elim
  | succ n =>
    obtain ⟨_, _, rfl, h0, _, _, rfl, h1, _, _, rfl, h2, _, _, rfl, h3, _, _, rfl, h4, rfl⟩ := (show tiled C.tab 0 _ = some _ → TyFs (TyW C.tab 140737488355328 n) [(0, 3), (1, 9), (2, 9), (3, 3), (4, 3)] xs from h) rfl
    obtain ⟨a0, rfl, _⟩ := tyw_int h0
    obtain ⟨a1, rfl, l1⟩ := tyw_str h1
    obtain ⟨a2, rfl, l2⟩ := tyw_str h2
    obtain ⟨a3, rfl, _⟩ := tyw_int h3
    obtain ⟨a4, rfl, _⟩ := tyw_int h4
    exact ⟨⟨a0, a1, a2, a3, a4⟩, rfl, str_lift l1, str_lift l2⟩
theorem tyw_sesss {n : Nat} {xs : List AV} (h : TyW C.tab 140737488355328 n 24 xs) : ∃ t, xs = [sessAV t] ∧ SBig t := by
  cases n with
  | zero => exact h.elim
  | succ n =>
    obtain ⟨rows, he, hb, hr⟩ := (show (5 : Nat) ≠ 0 → ∃ rows, xs = [AV.sl false rows] ∧ rows.length * 56 ≤ 140737488355328 ∧ ∀ row, row ∈ rows → TyW C.tab 140737488355328 n 78 row from h) (by decide)
    obtain ⟨l, rfl, hl⟩ := rows_map (f := Sess.row) (ok := Sess.small) (fun row hrow => tyw_sess (hr row hrow))
    refine ⟨l, he, hl, ?_⟩
    simp at hb; omega
theorem tyw_fol {n : Nat} {xs : List AV} (h : TyW C.tab 140737488355328 n 62 xs) : ∃ s : Fol, xs = s.row ∧ s.small := by
  cases n with
  | zero => exact h.elim
  | succ n =>
    obtain ⟨_, _, rfl, h0, _, _, rfl, h1, rfl⟩ := (show tiled C.tab 0 _ = some _ → TyFs (TyW C.tab 140737488355328 n) [(0, 9), (1, 60)] xs from h) rfl
    obtain ⟨a0, rfl, l0⟩ := tyw_str h0
    obtain ⟨a1, rfl, l1⟩ := tyw_jou h1
    exact ⟨⟨a0, a1⟩, rfl, l0, l1⟩
theorem tyw_fols {n : Nat} {xs : List AV} (h : TyW C.tab 140737488355328 n 22 xs) : ∃ t, xs = [folAV t] ∧ FBig t := by
  cases n with
  | zero => exact h.elim
  | succ n =>
    obtain ⟨rows, he, hb, hr⟩ := (show (4 : Nat) ≠ 0 → ∃ rows, xs = [AV.sl false rows] ∧ rows.length * 72 ≤ 140737488355328 ∧ ∀ row, row ∈ rows → TyW C.tab 140737488355328 n 62 row from h) (by decide)
    obtain ⟨l, rfl, hl⟩ := rows_map (f := Fol.row) (ok := Fol.small) (fun row hrow => tyw_fol (hr row hrow))
    refine ⟨l, he, hl, ?_⟩
    simp at hb; omega
theorem tyw_upl {n : Nat} {xs : List AV} (h : TyW C.tab 140737488355328 n 26 xs) : ∃ u : Upl, xs = u.row ∧ SBig u.sess := by
  cases n with
  | zero => exact h.elim
  | succ n =>
    obtain ⟨_, _, rfl, h0, _, _, rfl, h1, _, _, rfl, h2, _, _, rfl, h3, rfl⟩ := (show tiled C.tab 0 _ = some _ → TyFs (TyW C.tab 140737488355328 n) [(0, 24), (1, 3), (2, 3), (3, 3)] xs from h) rfl
    obtain ⟨a0, rfl, l0⟩ := tyw_sesss h0
    obtain ⟨a1, rfl, _⟩ := tyw_int h1
    obtain ⟨a2, rfl, _⟩ := tyw_int h2
    obtain ⟨a3, rfl, _⟩ := tyw_int h3
    exact ⟨⟨a0, a1, a2, a3⟩, rfl, l0⟩
theorem tyw_hub {n : Nat} {xs : List AV} (h : TyW C.tab 140737488355328 n 28 xs) : ∃ h : Hub, xs = h.row ∧ HBig h := by
  cases n with
  | zero => exact h.elim
  | succ n =>
    obtain ⟨_, _, rfl, h0, _, _, rfl, h1, _, _, rfl, h2, _, _, rfl, h3, rfl⟩ := (show tiled C.tab 0 _ = some _ → TyFs (TyW C.tab 140737488355328 n) [(0, 22), (1, 23), (2, 26), (6, 3)] xs from h) rfl
    obtain ⟨a0, rfl, l0⟩ := tyw_fols h0
    obtain ⟨a1, rfl, l1⟩ := tyw_gras0 h1
    obtain ⟨a2, rfl, l2⟩ := tyw_upl h2
    obtain ⟨a3, rfl, _⟩ := tyw_int h3
    exact ⟨⟨a0, a1, a2, a3⟩, rfl, l0, l1, l2⟩
theorem tyv_hub {y : AV} (h : TyVW C.tab 140737488355328 28 y) : ∃ c, y = .agg (Hub.row c) ∧ HBig c := by
  obtain ⟨n, xs, rfl, h2⟩ := (show ∃ n xs, y = .agg xs ∧ TyW C.tab 140737488355328 n 28 xs from h)
  obtain ⟨c, rfl, hc⟩ := tyw_hub h2
  exact ⟨c, rfl, hc⟩
theorem tyw_rqt {n : Nat} {xs : List AV} (h : TyW C.tab 140737488355328 n 40 xs) : ∃ r : Rqt, xs = r.row ∧ RBig r := by
  cases n with
  | zero => exact h.elim
  | succ n =>
    obtain ⟨_, _, rfl, h0, _, _, rfl, h1, _, _, rfl, h2, _, _, rfl, h3, _, _, rfl, h4, _, _, rfl, h5, _, _, rfl, h6, _, _, rfl, h7, _, _, rfl, h8, _, _, rfl, h9, rfl⟩ := (show tiled C.tab 0 _ = some _ → TyFs (TyW C.tab 140737488355328 n) [(0, 3), (1, 9), (2, 9), (3, 9), (4, 9), (5, 9), (6, 3), (7, 3), (8, 3), (9, 38)] xs from h) rfl
    obtain ⟨a0, rfl, _⟩ := tyw_int h0
    obtain ⟨a1, rfl, l1⟩ := tyw_str h1
    obtain ⟨a2, rfl, l2⟩ := tyw_str h2
    obtain ⟨a3, rfl, l3⟩ := tyw_str h3
    obtain ⟨a4, rfl, l4⟩ := tyw_str h4
    obtain ⟨a5, rfl, l5⟩ := tyw_str h5
    obtain ⟨a6, rfl, _⟩ := tyw_int h6
    obtain ⟨a7, rfl, _⟩ := tyw_int h7
    obtain ⟨a8, rfl, _⟩ := tyw_int h8
    obtain ⟨a9, rfl, l9⟩ := tyw_chgs h9
    exact ⟨⟨a0, a1, a2, a3, a4, a5, a6, a7, a8, a9⟩, rfl, l1, l2, l3, l4, l5, l9⟩
theorem tyv_rqt {y : AV} (h : TyVW C.tab 140737488355328 40 y) : ∃ c, y = .agg (Rqt.row c) ∧ RBig c := by
  obtain ⟨n, xs, rfl, h2⟩ := (show ∃ n xs, y = .agg xs ∧ TyW C.tab 140737488355328 n 40 xs from h)
  obtain ⟨c, rfl, hc⟩ := tyw_rqt h2
  exact ⟨c, rfl, hc⟩
end Go.Proofs.YtiljlcgmcmjcoaaGreatDoor

/- Hubs, plain: what is right goes on being right. -/
set_option linter.unusedSimpArgs false
set_option linter.unnecessarySimpa false
set_option linter.unusedVariables false
namespace Go.Proofs.YtiljlcgmcmjcoaaGreatDoor
open Go.Op

theorem newJ_right : JRight newJ := jright_iff.1 (by rfl)
theorem right_told {l : List Gra} {f w : Str} (h : ¬ rightG l f w = 0) : toldG l f = true := by
  unfold rightG at h
  cases hg : l.find? (sameKey ⟨f, w, 0⟩) with
  | none => rw [hg] at h; exact absurd rfl h
  | some g =>
    have h1 := List.mem_of_find?_eq_some hg
    have h2 := sameKey_iff.1 (List.find?_some hg)
    exact toldG_iff.2 ⟨g, h1, h2.1⟩
theorem HRight.has {h : Hub} (hr : HRight h) {f : Str} : hasF h.fols f = toldG h.gras f := by
  rw [Bool.eq_iff_iff]
  constructor
  · intro e
    obtain ⟨s, hs, rfl⟩ := hasF_iff.1 e
    exact hr.known s hs
  · intro e
    obtain ⟨g, hg, rfl⟩ := toldG_iff.1 e
    exact hr.told g hg
theorem commitW_eq {j : Jou} (h : JRight j) (key : Str) (l : List Chg) : commitW j key l = commitR j key l := by
  unfold commitR; rw [if_neg (by simp [jright_iff.2 h])]
theorem commitW_right {j : Jou} (h : JRight j) {key : Str} {l : List Chg} (hz : (commitW j key l).2.2 = 0) : JRight (commitW j key l).1 := by
  rw [commitW_eq h] at hz ⊢
  rcases commit_cases (j := j) (key := key) (l := l) with ⟨e, he, h1⟩ | ⟨_, _, ⟨c, _, h1⟩ | ⟨_, hR, h1⟩⟩
  · rw [h1] at hz; exact absurd hz he
  · rw [h1]; exact h
  · rw [h1]; exact hR
theorem mine_get {u : Upl} {who : Str} {number now : Int} (h : mineErr u who number now = 0) : beginErr u now = 0 ∧ isName who = true ∧ idxOf (isMine who number) (sweptL u.sess now) = (mineK u who number now : Int) ∧ (sweptL u.sess now)[mineK u who number now]? = some (mineS u who number now) ∧ isMine who number (mineS u who number now) = true := by
  unfold mineErr at h
  by_cases h1 : beginErr u now = 0
  case neg => rw [if_neg h1] at h; exact absurd h h1
  rw [if_pos h1] at h
  by_cases h2 : isName who = true
  case neg => rw [if_neg h2] at h; omega
  rw [if_pos h2] at h
  by_cases h3 : idxOf (isMine who number) (sweptL u.sess now) < 0
  · rw [if_pos h3] at h; omega
  rcases idxOf_cases (isMine who number) (sweptL u.sess now) with ⟨e, _⟩ | ⟨k, hk, e, _, e3⟩
  · omega
  have hK : mineK u who number now = k := by unfold mineK; rw [e]; rfl
  have hS : mineS u who number now = (sweptL u.sess now)[k] := by unfold mineS; rw [hK, List.getElem?_eq_getElem hk]; rfl
  rw [hK, hS]
  exact ⟨h1, h2, e, List.getElem?_eq_getElem hk, e3⟩
theorem set_map_same {α β : Type} {f : α → β} {L : List α} {k : Nat} {s s' : α} (h : L[k]? = some s) (hf : f s' = f s) : (L.set k s').map f = L.map f := by
  obtain ⟨hk, rfl⟩ := List.getElem?_eq_some_iff.1 h
  apply List.ext_getElem
  · simp
  · intro i h1 h2
    rw [List.getElem_map, List.getElem_map, List.getElem_set]
    by_cases hi : k = i
    · subst hi; rw [if_pos rfl, hf]
    · rw [if_neg hi]
theorem appS_same (s : Sess) (offset : Int) (text : Str) (till : Int) : (appS s offset text till).number = s.number ∧ (appS s offset text till).who = s.who ∧ (appS s offset text till).size = s.size := by
  unfold appS; split <;> exact ⟨rfl, rfl, rfl⟩
theorem begin_get {u : Upl} {now : Int} (h : beginErr u now = 0) : upErr u = 0 ∧ withinB now 0 1099511627776 = true := by
  unfold beginErr at h
  by_cases h1 : upErr u = 0
  · rw [if_pos h1] at h
    by_cases h2 : withinB now 0 1099511627776 = true
    · exact ⟨h1, h2⟩
    · rw [if_neg h2] at h; omega
  · rw [if_neg h1] at h; exact absurd h h1
theorem within_iff {n a b : Int} : withinB n a b = true ↔ a ≤ n ∧ n ≤ b := by unfold withinB; simp
/-- What was appended passes the check. -/
theorem append_passes {u : Upl} {now : Int} (hb : beginErr u now = 0) {k : Nat} {s : Sess} (hs : (sweptL u.sess now)[k]? = some s) {offset : Int} {text : Str} (he : appE s offset text = 0) : upErr { u with sess := (sweptL u.sess now).set k (appS s offset text (now + u.lasts)) } = 0 := by
  obtain ⟨h1, h2⟩ := begin_get hb
  obtain ⟨a, b, c, d, e⟩ := upErr_get (upErr_swept now h1)
  obtain ⟨w1, w2⟩ := within_iff.1 h2
  have hh : upHead u = true := a
  unfold upHead at hh
  simp only [Bool.and_eq_true, within_iff] at hh
  obtain ⟨n1, n2, n3⟩ := appS_same s offset text (now + u.lasts)
  have hm : s ∈ sweptL u.sess now := List.mem_of_getElem? hs
  have hnum := set_map_same (f := fun x : Sess => x.number) hs n1
  have hof : ∀ who, openOf ((sweptL u.sess now).set k (appS s offset text (now + u.lasts))) who = openOf (sweptL u.sess now) who := fun who => by
    unfold openOf
    rw [set_map_same (f := fun x : Sess => if x.who = who then x.size else 0) hs (by simp only [n2, n3])]
  have hse : sessErr u.next (appS s offset text (now + u.lasts)) = 0 := by
    have hc : sessErr u.next s = 0 := c s hm
    show sessErr u.next _ = 0
    unfold appS
    by_cases hg : againB s.text offset text = true
    · rw [if_pos hg]; exact hc
    · rw [if_neg hg]
      unfold appE at he
      rw [if_neg hg] at he
      have hlen : ¬ s.size < s.text.length + text.length := by
        intro hx
        by_cases ho : offset = s.text.length
        · rw [if_pos ho, if_pos hx] at he; omega
        · rw [if_neg ho] at he; omega
      unfold sessErr at hc ⊢
      have hw3 : withinB (now + u.lasts) 0 2199023255552 = true := within_iff.2 (by omega)
      simp only [hw3, Bool.and_true]
      by_cases h7 : (withinB s.number 1 (u.next - 1) && withinB s.size 0 300 && withinB s.till 0 2199023255552) = true
      · rw [if_pos h7] at hc
        simp only [Bool.and_eq_true] at h7
        rw [if_pos (by simp [h7])]
        by_cases h8 : isName s.who = true
        · rw [if_pos h8, if_neg (by simp only [List.length_append]; push_cast; omega)]
        · rw [if_neg h8] at hc; omega
      · rw [if_neg h7] at hc; omega
  refine upErr_mk a (by show (List.set _ _ _).length ≤ 20; rw [List.length_set]; exact b) (fun x hx => ?_) ?_ (fun x hx => ?_)
  · rcases List.mem_or_eq_of_mem_set hx with h | rfl
    · exact c x h
    · exact hse
  · have := (List.pairwise_map (f := fun x : Sess => x.number) (R := fun a b : Int => a < b)).2 d
    show List.Pairwise (fun a b : Sess => a.number < b.number) ((sweptL u.sess now).set k _)
    rw [← List.pairwise_map (f := fun x : Sess => x.number) (R := fun a b : Int => a < b), hnum]
    exact this
  · show openOf ((sweptL u.sess now).set k _) x.who ≤ u.room
    rw [hof]
    rcases List.mem_or_eq_of_mem_set hx with h | rfl
    · exact e x h
    · rw [n2]; exact e s hm
theorem openOf_sub {l l' : List Sess} (who : Str) (h : l'.Sublist l) (h0 : ∀ s, s ∈ l → 0 ≤ s.size) : openOf l' who ≤ openOf l who := by
  induction h with
  | slnil => exact Int.le_refl _
  | cons a _ ih =>
    rw [openOf_cons]
    have := ih fun s hs => h0 s (List.mem_cons_of_mem _ hs)
    have := h0 a (List.mem_cons_self ..)
    split <;> omega
  | cons_cons a _ ih =>
    rw [openOf_cons, openOf_cons]
    have := ih fun s hs => h0 s (List.mem_cons_of_mem _ hs)
    omega
theorem finish_passes {u : Upl} {now : Int} (hb : beginErr u now = 0) (k : Nat) : upErr (finU u now k) = 0 := by
  obtain ⟨h1, h2⟩ := begin_get hb
  obtain ⟨a, b, c, d, e⟩ := upErr_get (upErr_swept now h1)
  have hsub : ((sweptL u.sess now).eraseIdx k).Sublist (sweptL u.sess now) := List.eraseIdx_sublist _ _
  refine upErr_mk a (Nat.le_trans hsub.length_le b) (fun x hx => c x (hsub.subset hx)) (List.Pairwise.sublist hsub d) (fun x hx => ?_)
  have := openOf_sub x.who hsub fun s hs => (sessErr_size (c s hs)).1
  have := e x (hsub.subset hx)
  show openOf ((sweptL u.sess now).eraseIdx k) x.who ≤ u.room
  have h3 : (sweptU u now).room = u.room := rfl
  have h4 : (sweptU u now).sess = sweptL u.sess now := rfl
  rw [h3, h4] at this
  omega
/-- What becomes of a hub that is right is right; with an error nothing changes. -/
structure Serves (h : Hub) (x : Hub × Ans) : Prop where
  right : HRight x.1
  same : ¬ x.2.err = 0 → x = (h, errA x.2.err)
theorem serves_err {h : Hub} (hr : HRight h) (e : Int) : Serves h (h, errA e) := ⟨hr, fun _ => rfl⟩
theorem serves_ok {h h' : Hub} {a : Ans} (hr : HRight h') (ha : a.err = 0) : Serves h (h', a) := ⟨hr, fun e => absurd ha e⟩
theorem HRight.setUps {h : Hub} (hr : HRight h) {u : Upl} (hu : upErr u = 0) : HRight { h with ups := u } := ⟨hr.now, hr.len, hr.each, hr.rise, hr.gra, hr.told, hr.known, hu⟩
theorem ups_serves {h : Hub} (hr : HRight h) {x : Upl × Int × Int} (hx : x.2.2 = 0 → upErr x.1 = 0) : Serves h (upsH h x) := by
  unfold upsH
  by_cases h0 : x.2.2 = 0
  · rw [if_pos h0]; exact serves_ok (hr.setUps (hx h0)) rfl
  · rw [if_neg h0]; exact serves_err hr _
theorem opnR_right {u : Upl} {who : Str} {size now : Int} (h : (opnR u who size now).2.2 = 0) : upErr (opnR u who size now).1 = 0 := by
  unfold opnR at h ⊢
  by_cases h0 : openErr u who size now = 0
  · rw [if_pos h0]; exact open_passes h0
  · rw [if_neg h0] at h; exact absurd h h0
theorem appR_right {u : Upl} {who : Str} {number offset : Int} {text : Str} {now : Int} (h : (appR u who number offset text now).2.2 = 0) : upErr (appR u who number offset text now).1 = 0 := by
  unfold appR at h ⊢
  by_cases h0 : mineErr u who number now = 0
  · rw [if_pos h0] at h ⊢
    obtain ⟨m1, m2, m3, m4, m5⟩ := mine_get h0
    unfold appW at h ⊢
    by_cases h1 : appE (mineS u who number now) offset text = 0
    · rw [if_pos h1]; exact append_passes m1 m4 h1
    · rw [if_neg h1] at h; exact absurd h h1
  · rw [if_neg h0] at h; exact absurd h h0
theorem finR_right {u : Upl} {who : Str} {number now : Int} (h : (finR u who number now).2.2 = 0) : upErr (finR u who number now).1 = 0 := by
  unfold finR at h ⊢
  by_cases h0 : mineErr u who number now = 0
  · rw [if_pos h0] at h ⊢
    by_cases h1 : (mineS u who number now).text.length < (mineS u who number now).size
    · rw [if_pos h1] at h; exact absurd h (by decide)
    · rw [if_neg h1]; exact finish_passes (mine_get h0).1 _
  · rw [if_neg h0] at h; exact absurd h h0
theorem com_serves {h : Hub} (hr : HRight h) {r : Rqt} {u : Upl} {l : List Chg} (hu : upErr u = 0) : Serves h (comH h r u l) := by
  unfold comH
  cases hj : jouAt h.fols r.folder with
  | none => exact serves_ok hr rfl
  | some j =>
    obtain ⟨hm, hh⟩ := jouAt_some hj
    have hJ : JRight j := (hr.each _ hm).2
    dsimp only
    by_cases h0 : (commitW j r.key l).2.2 = 0
    · rw [if_pos h0]
      refine serves_ok ⟨hr.now, by show (setJ _ _ _).length ≤ 8; unfold setJ; rw [List.length_map]; exact hr.len, fun s hs => ?_, by rw [setJ_rising]; exact hr.rise, hr.gra, fun g hg => by show hasF (setJ _ _ _) _ = true; rw [setJ_has]; exact hr.told g hg, fun s hs => ?_, hu⟩ rfl
      · rcases setJ_mem hs with ⟨rfl, _⟩ | ⟨hs, _⟩
        · exact ⟨(hr.each _ hm).1, commitW_right hJ h0⟩
        · exact hr.each s hs
      · rcases setJ_mem hs with ⟨rfl, _⟩ | ⟨hs, _⟩
        · exact hr.known ⟨r.folder, j⟩ hm
        · exact hr.known s hs
    · rw [if_neg h0]; exact serves_err hr _
theorem fin_serves {h : Hub} (hr : HRight h) (r : Rqt) : Serves h (finH h r) := by
  unfold finH
  by_cases h0 : (finR h.ups r.who r.number h.now).2.2 = 0
  · rw [if_pos h0]; exact com_serves hr (finR_right h0)
  · rw [if_neg h0]; exact serves_err hr _
theorem page_serves {h : Hub} (hr : HRight h) (r : Rqt) : Serves h (pageH h r) := by
  unfold pageH
  split
  · exact serves_err hr _
  · split
    · exact serves_ok hr rfl
    · split
      · exact serves_ok hr rfl
      · exact serves_err hr _
theorem setG_has {l : List Gra} {f w : Str} {r : Int} (hs : rising graLt l = true) (hr : ¬ r = 0) : ∃ g, g ∈ setG l f w r ∧ g.folder = f ∧ g.right = r := by
  have h1 := rightG_set (l := l) (f := f) (w := w) (r := r) hs
  unfold rightG at h1
  cases hg : (setG l f w r).find? (sameKey ⟨f, w, 0⟩) with
  | none => rw [hg] at h1; exact absurd h1.symm hr
  | some g =>
    rw [hg] at h1
    exact ⟨g, List.mem_of_find?_eq_some hg, (sameKey_iff.1 (List.find?_some hg)).1, h1⟩
theorem told_keep {l : List Gra} {f w g : Str} {r : Int} (hs : rising graLt l = true) (h : toldG l g = true) (hg : ¬ g = f) : toldG (setG l f w r) g = true := by
  obtain ⟨x, hx, rfl⟩ := toldG_iff.1 h
  exact toldG_iff.2 ⟨x, mem_setG hs hx (by rw [Bool.eq_false_iff]; intro e; exact hg (sameKey_iff.1 e).1), rfl⟩
theorem makeErr_get {l : List Gra} {f w : Str} (h : makeErr l f w = 0) : graErr l = 0 ∧ isName f = true ∧ isName w = true ∧ toldG l f = false ∧ ¬ l.length = 60 := by
  unfold makeErr at h
  by_cases h1 : graErr l = 0
  case neg => rw [if_neg h1] at h; exact absurd h h1
  rw [if_pos h1] at h
  by_cases h2 : (isName f && isName w) = true
  case neg => rw [if_neg h2] at h; omega
  rw [if_pos h2] at h
  by_cases h3 : l.any (inFolder f) = true
  · rw [if_pos h3] at h; omega
  rw [if_neg h3] at h
  by_cases h4 : l.length = 60
  · rw [if_pos h4] at h; omega
  rw [Bool.and_eq_true] at h2
  refine ⟨h1, h2.1, h2.2, ?_, h4⟩
  have : l.any (inFolder f) = false := by simpa using h3
  exact this
theorem create_right {h : Hub} (hr : HRight h) {r : Rqt} (h0 : makeErr h.gras r.folder r.who = 0) (h8 : ¬ h.fols.length = 8) : HRight { h with fols := insF h.fols r.folder, gras := setG h.gras r.folder r.who 3 } := by
  obtain ⟨g1, g2, g3, g4, g5⟩ := makeErr_get h0
  obtain ⟨a1, a2, a3, a4⟩ := graErr_all g1
  have hf : hasF h.fols r.folder = false := by rw [hr.has]; exact g4
  obtain ⟨x, hx, hxf, hxr⟩ := setG_has (f := r.folder) (w := r.who) (r := 3) a3 (by decide)
  have hlen := hr.len
  refine ⟨hr.now, by show (insF _ _).length ≤ 8; rw [insF_len]; omega, fun s hs => ?_, insF_rising hr.rise hf, graErr_set g1 g2 g3 (by decide) (List.any_eq_true.2 ⟨x, hx, ownIn_iff.2 ⟨hxf, hxr⟩⟩) ?_, fun g hg => ?_, fun s hs => ?_, hr.ups⟩
  · rcases insF_mem.1 hs with rfl | hs
    · exact ⟨g2, newJ_right⟩
    · exact hr.each s hs
  · have := setG_len (l := h.gras) (f := r.folder) (w := r.who) (r := 3); omega
  · rcases setG_mem a3 hg with hg | ⟨_, rfl⟩
    · exact insF_has.2 (.inr (hr.told g hg))
    · exact insF_has.2 (.inl rfl)
  · rcases insF_mem.1 hs with rfl | hs
    · exact toldG_iff.2 ⟨x, hx, hxf⟩
    · refine told_keep a3 (hr.known s hs) fun e => ?_
      rw [hasF_iff.2 ⟨s, hs, e⟩] at hf; cases hf
theorem create_serves {h : Hub} (hr : HRight h) (r : Rqt) : Serves h (createH h r) := by
  unfold createH
  by_cases h0 : makeErr h.gras r.folder r.who = 0
  · rw [if_pos h0]
    by_cases h8 : h.fols.length = 8
    · rw [if_pos h8]; exact serves_err hr _
    · rw [if_neg h8]; exact serves_ok (create_right hr h0 h8) rfl
  · rw [if_neg h0]; exact serves_err hr _
theorem give1_get {l : List Gra} {f b w : Str} {r : Int} (h : giveErr1 l f b w r = 0) : graErr l = 0 ∧ isName f = true ∧ isName b = true ∧ isName w = true ∧ 0 ≤ r ∧ r ≤ 3 := by
  unfold giveErr1 at h
  by_cases h1 : graErr l = 0
  case neg => rw [if_neg h1] at h; exact absurd h h1
  rw [if_pos h1] at h
  by_cases h2 : (isName f && (isName b && isName w)) = true
  case neg => rw [if_neg h2] at h; omega
  rw [if_pos h2] at h
  by_cases h3 : withinB r 0 3 = true
  case neg => rw [if_neg h3] at h; omega
  simp only [Bool.and_eq_true] at h2
  obtain ⟨w1, w2⟩ := within_iff.1 h3
  exact ⟨h1, h2.1, h2.2.1, h2.2.2, w1, w2⟩
theorem give2_get {L : List Gra} {f : Str} (h : giveErr2 L f = 0) : L.any (ownIn f) = true ∧ L.length ≤ 60 ∧ giveL L f = L := by
  have hl : giveL L f = L := by unfold giveL; rw [if_pos h]
  unfold giveErr2 at h
  by_cases h1 : L.any (ownIn f) = true
  · rw [if_pos h1] at h
    by_cases h2 : 60 < L.length
    · rw [if_pos h2] at h; omega
    · exact ⟨h1, by omega, hl⟩
  · rw [if_neg h1] at h; omega
theorem giveR_get {l : List Gra} {f b w : Str} {r : Int} (h : (giveR l f b w r).2 = 0) : giveErr1 l f b w r = 0 ∧ giveErr2 (setG l f w r) f = 0 ∧ (giveR l f b w r).1 = setG l f w r := by
  unfold giveR at h ⊢
  by_cases h1 : giveErr1 l f b w r = 0
  · rw [if_pos h1] at h ⊢
    exact ⟨h1, h, (give2_get h).2.2⟩
  · rw [if_neg h1] at h; exact absurd h h1
theorem give_right {h : Hub} (hr : HRight h) {r : Rqt} (h1 : ¬ rightG h.gras r.folder r.who < 1) (h0 : (giveR h.gras r.folder r.who r.name r.number).2 = 0) : HRight { h with gras := (giveR h.gras r.folder r.who r.name r.number).1 } := by
  obtain ⟨e1, e2, e3⟩ := giveR_get h0
  obtain ⟨g1, g2, g3, g4, g5, g6⟩ := give1_get e1
  obtain ⟨k1, k2, _⟩ := give2_get e2
  obtain ⟨a1, a2, a3, a4⟩ := graErr_all g1
  rw [e3]
  have hf : hasF h.fols r.folder = true := by rw [hr.has]; exact right_told (w := r.who) (by omega)
  refine ⟨hr.now, hr.len, hr.each, hr.rise, graErr_set g1 g2 g4 ⟨g5, g6⟩ k1 k2, fun g hg => ?_, fun s hs => ?_, hr.ups⟩
  · rcases setG_mem a3 hg with hg | ⟨_, rfl⟩
    · exact hr.told g hg
    · exact hf
  · by_cases he : s.name = r.folder
    · obtain ⟨x, hx, hxo⟩ := List.any_eq_true.1 k1
      exact toldG_iff.2 ⟨x, hx, by rw [he]; exact (ownIn_iff.1 hxo).1⟩
    · exact told_keep a3 (hr.known s hs) he
theorem give_serves {h : Hub} (hr : HRight h) (r : Rqt) : Serves h (giveH h r) := by
  unfold giveH
  by_cases h1 : rightG h.gras r.folder r.who < 1
  · rw [if_pos h1]; exact serves_err hr _
  · rw [if_neg h1]
    by_cases h0 : (giveR h.gras r.folder r.who r.name r.number).2 = 0
    · rw [if_pos h0]; exact serves_ok (give_right hr h1 h0) rfl
    · rw [if_neg h0]; exact serves_err hr _
theorem serve_right {h : Hub} (hr : HRight h) (r : Rqt) : Serves h (serveW h r) := by
  unfold serveW
  split
  · exact serves_err hr _
  split
  · exact serves_err hr _
  split
  · exact create_serves hr r
  split
  · exact give_serves hr r
  split
  · exact page_serves hr r
  split
  · exact ups_serves hr opnR_right
  split
  · exact ups_serves hr appR_right
  split
  · unfold qryH
    split
    · exact serves_ok hr rfl
    · exact serves_err hr _
  · unfold editH
    split
    · exact serves_err hr _
    split
    · exact fin_serves hr r
    · exact com_serves hr hr.ups
end Go.Proofs.YtiljlcgmcmjcoaaGreatDoor

/- Hubs, plain: who asks twice; what is asked of one folder; who has no right. -/
set_option linter.unusedSimpArgs false
set_option linter.unnecessarySimpa false
set_option linter.unusedVariables false
namespace Go.Proofs.YtiljlcgmcmjcoaaGreatDoor
open Go.Op

theorem serve_commit {h : Hub} {r : Rqt} (hk : r.kind = 1) : serveW h r = if isName r.who = false then (h, errA 1) else if rightG h.gras r.folder r.who < 2 then (h, errA 9) else comH h r h.ups r.chs := by
  unfold serveW editH
  rw [hk]
  simp
/-- What a request for a page, or a commit, hangs on. -/
structure SameView (h x : Hub) (f : Str) : Prop where
  jou : jouAt x.fols f = jouAt h.fols f
  right : ∀ w, rightG x.gras f w = rightG h.gras f w
theorem view_refl (h : Hub) (f : Str) : SameView h h f := ⟨rfl, fun _ => rfl⟩
theorem other_com {h : Hub} {r : Rqt} {u : Upl} {l : List Chg} {f : Str} (hf : ¬ r.folder = f) : SameView h (comH h r u l).1 f := by
  unfold comH
  split
  · exact view_refl _ _
  · split
    · refine ⟨?_, fun _ => rfl⟩
      show jouAt (setJ _ _ _) f = _
      rw [jouAt_setJ, if_neg fun e => hf e.symm]
    · exact view_refl _ _
theorem ups_view {h : Hub} {x : Upl × Int × Int} {f : Str} : SameView h (upsH h x).1 f := by
  unfold upsH
  split
  · exact ⟨rfl, fun _ => rfl⟩
  · exact view_refl _ _
theorem com_low {h : Hub} {r : Rqt} {u : Upl} {l : List Chg} {g : Str} (hg : rightG h.gras g r.who < 2) (hn : ¬ rightG h.gras r.folder r.who < 2) : jouAt (comH h r u l).1.fols g = jouAt h.fols g := by
  have : ¬ r.folder = g := fun e => hn (e ▸ hg)
  exact (other_com this).jou
/-- Who has no right to change a folder changes nothing in it. -/
theorem serve_low {h : Hub} {r : Rqt} {g : Str} (hk : ¬ r.kind = 8) (hg : rightG h.gras g r.who < 2) : jouAt (serveW h r).1.fols g = jouAt h.fols g := by
  unfold serveW
  split
  · rfl
  split
  · rfl
  try rw [if_neg hk]
  split
  · unfold giveH
    split
    · rfl
    · split <;> rfl
  split
  · unfold pageH
    split
    · rfl
    · split
      · rfl
      · split <;> rfl
  split
  · exact ups_view.jou
  split
  · exact ups_view.jou
  split
  · unfold qryH
    split <;> rfl
  · unfold editH
    by_cases hn : rightG h.gras r.folder r.who < 2
    · rw [if_pos hn]
    rw [if_neg hn]
    split
    · unfold finH
      split
      · exact com_low hg hn
      · rfl
    · exact com_low hg hn
theorem right_name {l : List Gra} {f w : Str} (h : graErr l = 0) (hf : isName f = false ∨ isName w = false) : rightG l f w = 0 := by
  cases hg : l.find? (sameKey ⟨f, w, 0⟩) with
  | none => unfold rightG; rw [hg]
  | some g =>
    exfalso
    have h1 := (graErr_all h).2.1 g (List.mem_of_find?_eq_some hg)
    obtain ⟨h2, h3⟩ := sameKey_iff.1 (List.find?_some hg)
    have h2 : g.folder = f := h2
    have h3 : g.who = w := h3
    have := oneGra_form (g := g) (by rw [h2, h3]; exact hf)
    rw [h1] at this
    exact absurd this (by decide)
theorem rightVal_eq {l : List Gra} {f w : Str} (h : graErr l = 0) : rightVal l f w = rightG l f w := by
  unfold rightVal rightErr
  rw [if_pos h]
  by_cases hn : (isName f && isName w) = true
  · rw [if_pos hn, if_pos rfl]
  · rw [if_neg hn, if_neg (by decide)]
    refine (right_name h ?_).symm
    cases h1 : isName f with
    | false => exact .inl rfl
    | true =>
      refine .inr ?_
      rw [h1] at hn
      simpa using hn
/-- Who has no right hears nothing. -/
theorem serve_denied {h : Hub} {r : Rqt} (hk : r.kind = 1 ∨ r.kind = 2 ∨ r.kind = 3) (hz : rightG h.gras r.folder r.who = 0) : (serveW h r).2.err = if isName r.who = false then 1 else 9 := by
  unfold serveW
  rw [if_neg (by omega)]
  by_cases n1 : isName r.who = false
  · rw [if_pos n1, if_pos n1]; rfl
  rw [if_neg n1, if_neg n1, if_neg (by omega)]
  rcases hk with hk | hk | hk
  · rw [if_neg (by omega), if_neg (by omega), if_neg (by omega), if_neg (by omega), if_neg (by omega)]
    unfold editH
    rw [if_pos (by omega)]; rfl
  · rw [if_neg (by omega), if_pos hk]
    unfold pageH
    rw [if_pos (by omega)]; rfl
  · rw [if_pos hk]
    unfold giveH
    rw [if_pos (by omega)]; rfl
theorem commit_denied {h : Hub} {r : Rqt} (hk : r.kind = 1) (hn : isName r.who = true) (hz : rightG h.gras r.folder r.who < 2) : (serveW h r).2.err = 9 := by
  rw [serve_commit hk, if_neg (by rw [hn]; decide), if_pos hz]; rfl
/-- The tree of a folder. -/
def treeW (h : Hub) (f : Str) : List Ent × Int := match jouAt h.fols f with | none => ([], 5) | some j => (nowT j, 0)
def treeR (h : Hub) (f : Str) : List Ent × Int := if hubErr h = 0 then treeW h f else ([], hubErr h)
end Go.Proofs.YtiljlcgmcmjcoaaGreatDoor

/- Hubs in the abstract layer, 1: find; matched. -/
set_option linter.unusedSimpArgs false
set_option linter.unnecessarySimpa false
set_option linter.unusedVariables false
set_option maxHeartbeats 1000000
namespace Go.Proofs.YtiljlcgmcmjcoaaGreatDoor
open Go.Ab Go.RowKit
open Go.Op (bytesLess)
set_option maxRecDepth 10000
attribute [local irreducible] Awp Ops OpsX Wanted Red ExOk Go.Ab.Fin ACall Rz RzL RzRows Enters ResOk RenV RenVL ArgV ArgVL
def atF (p : Str) (x : Fol) : Bool := decide (x.name = p)
theorem rising_ltF {t : List Fol} (h : rising folLt t = true) : ∀ (j k : Nat) (hj : j < t.length) (hk : k < t.length), j < k → bytesLess t[j].name t[k].name = true := by
  intro j k hj hk hjk
  induction k with
  | zero => omega
  | succ k ih =>
    have h1 : bytesLess t[k].name t[k + 1].name = true := rising_iff.1 h k hk
    by_cases e : j = k
    · subst e; exact h1
    · exact bl_trans (ih (by omega) (by omega)) h1
theorem posF_is {p : Str} : ∀ {t : List Fol} {k : Nat}, k ≤ t.length → (∀ (j : Nat) (h : j < t.length), j < k → bytesLess t[j].name p = true) → (∀ (h : k < t.length), bytesLess t[k].name p = false) → posF t p = k
  | [], k, hk, _, _ => by simp at hk; simp [posF, hk]
  | x :: l, 0, hk, _, h2 => by
    have := h2 (by simp)
    simp only [List.getElem_cons_zero] at this
    simp [posF, List.takeWhile_cons, this]
  | x :: l, k + 1, hk, h1, h2 => by
    have hx : bytesLess x.name p = true := h1 0 (by simp) (by omega)
    have := posF_is (t := l) (k := k) (by simpa using hk) (fun j h hj => h1 (j + 1) (by simpa using h) (by omega)) (fun h => h2 (by simpa using h))
    simp only [posF] at this
    simp [posF, List.takeWhile_cons, hx, this]
theorem posF_at {t : List Fol} {p : Str} (hs : rising folLt t = true) {k : Nat} (hk : k < t.length) (he : t[k].name = p) : posF t p = k := by
  refine posF_is (by omega) (fun j hj hjk => ?_) (fun _ => ?_)
  · rw [← he]; exact rising_ltF hs j k hj hk hjk
  · rw [← he]; exact bl_irr _
theorem hasF_pos {t : List Fol} {p : Str} (hs : rising folLt t = true) : hasF t p = (match t[posF t p]? with | some x => decide (strCmp x.name p = 0) | none => false) := by
  rcases idxOf_cases (atF p) t with ⟨_, h2⟩ | ⟨k, hk, _, _, h3⟩
  · have : hasF t p = false := List.any_eq_false.2 (fun x hx => by have := h2 x hx; simpa [atF] using this)
    rw [this]
    split
    · rename_i x hx
      have hm := List.mem_of_getElem? hx
      have := h2 x hm
      rw [eq_comm, decide_eq_false_iff_not, strCmp_zero]
      simpa [atF] using this
    · rfl
  · have he : t[k].name = p := by simpa [atF] using h3
    have : hasF t p = true := List.any_eq_true.2 ⟨t[k], List.getElem_mem _, h3⟩
    rw [this, posF_at hs hk he, List.getElem?_eq_getElem hk]
    simp [he, strCmp_self]
theorem hasF_at {t : List Fol} {p : Str} (hs : rising folLt t = true) (h : hasF t p = true) : ∃ hk : posF t p < t.length, t[posF t p].name = p ∧ t.find? (atF p) = some t[posF t p] ∧ idxOf (atF p) t = posF t p := by
  obtain ⟨x, hx, hk⟩ := List.any_eq_true.1 h
  obtain ⟨k, hkl, rfl⟩ := List.getElem_of_mem hx
  have he : t[k].name = p := by simpa [atF] using hk
  have hp := posF_at hs hkl he
  have hbef : ∀ j (hj : j < k), atF p (t[j]'(by omega)) = false := fun j hj => by
    have h1 := rising_ltF hs j k (by omega) hkl hj
    have : ¬ t[j].name = p := fun e => by rw [e, he, bl_irr] at h1; cases h1
    simp [atF, this]
  refine ⟨by omega, by simp only [hp]; exact he, ?_, ?_⟩
  · simp only [hp]
    rw [List.find?_eq_some_iff_getElem]
    exact ⟨hk, k, hkl, rfl, fun j hj => by rw [hbef j hj]; rfl⟩
  · rw [hp]
    refine idxOf_at hkl (fun x hx => ?_) hk
    obtain ⟨j, hj, rfl⟩ := List.getElem_of_mem hx
    rw [List.getElem_take]
    exact hbef j (by simp at hj; omega)
theorem a_findC (e : Fol) (p : Str) : AFn C.P 99 [.agg e.row, .v (str p)] (.v (.int .i64 (strCmp e.name p))) := by
  refine acall_intro Tryz.func99 rfl _ Tryz.ntmps99 (Nat.le_of_ble_eq_true rfl) _ Tryz.results99 0 rfl rfl ?_
  repeat' (first | refine walk ?_ | (first | (apply to_call Tryz.func100 rfl rfl; intro hIsFn; refine o_callf hIsFn (a_compare ..) ?_; skip)) | ((first | (apply awp_cond; rfl)); all_goals (intro hc; have hp := hc; first | (simp at hp; done) | ((try simp at hp); first | (exfalso; omega) | skip))) | (apply awp_cond_any; rfl))
  all_goals (apply fin_int; rfl; rfl)
theorem a_searchF (l : List Fol) (p : Str) (hl : l.length ≤ 140737488355328) (hs : rising folLt l = true) :
    AFn C.P 98 [folAV l, .v (str p), .clo (.func 99) [] []] (.tup [.v (.int .i64 (posF l p)), .v (.bool (hasF l p))]) := by
  refine acall_intro Tryz.func98 rfl _ Tryz.ntmps98 (Nat.le_of_ble_eq_true rfl) _ Tryz.results98 0 rfl rfl ?_
  repeat' (first | refine walk ?_ | fail | ((first | (apply ops_split_t; rfl; rfl; exact nle rfl) | (apply ops_split_f; rfl; rfl; exact nle rfl) | (apply awp_cond; rfl)); all_goals (intro hc; have hp := hc; first | (simp at hp; done) | ((try simp at hp); first | (exfalso; omega) | skip))) | (apply awp_cond_any; rfl))
  (refine Awp.red (red_pure (ts := [(0, folAV l), (1, .v (str p)), (2, .clo (.func 99) [] []), (8, .v (.int .i64 l.length)), (9, .v (.int .i64 ((0 : Nat) : Int))), (10, .v (.int .i64 l.length))]) ?_) ?_; ((repeat (first | exact tsok_nil | refine p_pure ?_ | refine p_eq ?_ ?_))))
  all_goals try (rw [List.length_map]; done)
  refine awp_loop (fun n σ => ∃ lo hi : Nat, lo ≤ hi ∧ hi ≤ l.length ∧ n = hi - lo ∧ (∀ (k : Nat) (h : k < l.length), k < lo → Op.bytesLess l[k].name p = true) ∧ (∀ (k : Nat) (h : k < l.length), hi ≤ k → Op.bytesLess l[k].name p = false) ∧ σ = ⟨[(0, folAV l), (1, .v (str p)), (2, .clo (.func 99) [] []), (8, .v (.int .i64 l.length)), (9, .v (.int .i64 ((lo : Nat) : Int))), (10, .v (.int .i64 ((hi : Nat) : Int)))], [], C.nh⟩) l.length ⟨0, l.length, by omega, Nat.le_refl _, rfl, fun _ _ h => absurd h (by omega), fun _ _ h => absurd h (by omega), rfl⟩ ?_
  rintro n σ ⟨lo, hi, hle, hhi, rfl, h1, h2, rfl⟩
  by_cases hlt : lo < hi
  · obtain ⟨m, hm⟩ : ∃ m : Nat, m = (lo + hi) / 2 := ⟨_, rfl⟩
    have hmi : ((lo : Int) + (hi : Int)) / 2 = (m : Int) := by omega
    have hml : m < l.length := by omega
    have hr := getRow (f := Fol.row) hml
    have hr2 : (l.map Fol.row)[(((lo : Int) + (hi : Int)) / 2).toNat]? = some l[m].row := by rw [hmi]; exact hr
    repeat' (first | refine walk ?_ | (first | (apply opsx_val; first | (apply ex_conv_u; rfl; rfl; rfl; rfl; rfl; omega; omega; exact nle rfl) | (apply ex_conv_i; rfl; rfl; rfl; rfl; rfl; omega; omega; exact nle rfl)) | (apply opsx_val; apply ex_half; (case hx => rfl); (case hy => rfl); (case hk => decide); (case hN => exact nle rfl)) | (refine o_callv Tryz.func99 (a_findC ..) ?_)) | ((first | (apply ops_split_t; rfl; rfl; exact nle rfl) | (apply ops_split_f; rfl; rfl; exact nle rfl) | (apply awp_cond; rfl)); all_goals (intro hc; have hp := hc; first | (simp at hp; done) | ((try simp at hp); first | (exfalso; omega) | skip))) | (apply awp_cond_any; rfl))
    all_goals try (exfalso; omega)
    · have hmg : Op.bytesLess l[m].name p = true := (strCmp_neg _ _).1 hp
      refine ⟨hi - (m + 1), _, by omega, red_pure (ts := [(0, folAV l), (1, .v (str p)), (2, .clo (.func 99) [] []), (8, .v (.int .i64 l.length)), (9, .v (.int .i64 ((m + 1 : Nat) : Int))), (10, .v (.int .i64 ((hi : Nat) : Int)))]) ?_, m + 1, hi, by omega, hhi, rfl, fun k h hk => ?_, h2, rfl⟩
      · (repeat (first | exact tsok_nil | refine p_pure ?_ | refine p_eq ?_ ?_))
        all_goals (rw [hmi]; rfl)
      · by_cases e : k = m
        · subst e; exact hmg
        · exact bl_trans (rising_ltF hs k m h hml (by omega)) hmg
    · have hmg : Op.bytesLess l[m].name p = false := (by
        cases h : Op.bytesLess l[m].name p
        · rfl
        · have := (strCmp_neg _ _).2 h; omega)
      refine ⟨m - lo, _, by omega, red_pure (ts := [(0, folAV l), (1, .v (str p)), (2, .clo (.func 99) [] []), (8, .v (.int .i64 l.length)), (9, .v (.int .i64 ((lo : Nat) : Int))), (10, .v (.int .i64 ((m : Nat) : Int)))]) ?_, lo, m, by omega, by omega, rfl, h1, fun k h hk => ?_, rfl⟩
      · (repeat (first | exact tsok_nil | refine p_pure ?_ | refine p_eq ?_ ?_))
        all_goals (rw [hmi])
      · by_cases e : k = m
        · subst e; exact hmg
        · cases hkg : Op.bytesLess l[k].name p
          · rfl
          · rw [bl_trans (rising_ltF hs m k hml h (by omega)) hkg] at hmg; cases hmg
  obtain rfl : lo = hi := by omega
  have hpos : posF l p = lo := posF_is hhi h1 (fun h => h2 lo h (by omega))
  by_cases hin : lo < l.length
  · have hr := getRow (f := Fol.row) hin
    have hhit : hasF l p = decide (strCmp l[lo].name p = 0) := by
      rw [hasF_pos hs, hpos, List.getElem?_eq_getElem hin]
    repeat' (first | refine walk ?_ | (first | (refine o_callv Tryz.func99 (a_findC ..) ?_)) | ((first | (apply ops_split_t; rfl; rfl; exact nle rfl) | (apply ops_split_f; rfl; rfl; exact nle rfl) | (apply awp_cond; rfl)); all_goals (intro hc; have hp := hc; first | (simp at hp; done) | ((try simp at hp); first | (exfalso; omega) | skip))) | (apply awp_cond_any; rfl))
    all_goals try (exfalso; omega)
    rw [hpos, hhit]
    (refine f_pure (rs := [.tmp 6, .tmp 7]) ?_; (repeat' (first | exact rzl_nil | apply rzl_cons | exact rz_pure rfl | exact rz_ex | exact z_os | apply rz_agg | apply rz_tup | apply rz_clo | apply rz_int | apply rz_bool | apply rz_str | refine z_eq ?_ | apply rz_sl)); all_goals trace_state)
  · have hhit : hasF l p = false := by
      rw [hasF_pos hs, hpos, List.getElem?_eq_none (by omega)]
    repeat' (first | refine walk ?_ | (first | (refine o_callv Tryz.func99 (a_findC ..) ?_)) | ((first | (apply ops_split_t; rfl; rfl; exact nle rfl) | (apply ops_split_f; rfl; rfl; exact nle rfl) | (apply awp_cond; rfl)); all_goals (intro hc; have hp := hc; first | (simp at hp; done) | ((try simp at hp); first | (exfalso; omega) | skip))) | (apply awp_cond_any; rfl))
    all_goals try (exfalso; omega)
    rw [hpos, hhit]
    (refine f_pure (rs := [.tmp 6, .tmp 7]) ?_; (repeat' (first | exact rzl_nil | apply rzl_cons | exact rz_pure rfl | exact rz_ex | exact z_os | apply rz_agg | apply rz_tup | apply rz_clo | apply rz_int | apply rz_bool | apply rz_str | refine z_eq ?_ | apply rz_sl)); all_goals trace_state)
theorem a_hfind (h : Hub) (p : Str) (hl : h.fols.length ≤ 140737488355328) (hs : rising folLt h.fols = true) :
    AFn C.P 58 [hubAV h, .v (str p)] (.tup [.v (.int .i64 (posF h.fols p)), .v (.bool (hasF h.fols p))]) := by
  have hse := a_searchF h.fols p hl hs
  refine acall_intro Tryz.func58 rfl _ Tryz.ntmps58 (Nat.le_of_ble_eq_true rfl) _ Tryz.results58 0 rfl rfl ?_
  repeat' (first | refine walk ?_ | (first | (apply to_call Tryz.func98 rfl rfl; intro hIsFn; refine o_callp hIsFn (hse ..) ?_)) | ((first | (apply awp_cond; rfl)); all_goals (intro hc; have hp := hc; first | (simp at hp; done) | ((try simp at hp); first | (exfalso; omega) | skip))) | (apply awp_cond_any; rfl))
  (refine f_pure (rs := [.tmp 4, .tmp 5]) ?_; (repeat' (first | exact rzl_nil | apply rzl_cons | exact rz_pure rfl | exact rz_ex | exact z_os | apply rz_agg | apply rz_tup | apply rz_clo | apply rz_int | apply rz_bool | apply rz_str | refine z_eq ?_ | apply rz_sl)); all_goals trace_state)
theorem match_len {h : Hub} (hs : rising folLt h.fols = true) (ht : ∀ g, g ∈ h.gras → hasF h.fols g.folder = true) : decide ((allM h.gras).length = h.fols.length) = matchB h := by
  have hn := fol_nodup hs
  have hsub : h.gras.map (·.folder) ⊆ h.fols.map Fol.name := by
    intro s hs
    obtain ⟨g, hg, rfl⟩ := List.mem_map.1 hs
    obtain ⟨x, hx, he⟩ := hasF_iff.1 (ht g hg)
    exact List.mem_map.2 ⟨x, hx, he⟩
  have hl : (keyM (h.fols.map Fol.name)).length = h.fols.length := by
    have := (keyM_nodup (h.fols.map Fol.name) h.fols.length (by simp)).2
    rw [show (h.fols.map Fol.name).take h.fols.length = h.fols.map Fol.name from List.take_of_length_le (by simp)] at this
    exact this.2 hn
  rw [Bool.eq_iff_iff, decide_eq_true_iff, allM, ← hl, keyM_len hsub]
  unfold matchB
  rw [Bool.and_eq_true, List.all_eq_true, List.all_eq_true]
  constructor
  · intro h1
    refine ⟨ht, fun s hs => ?_⟩
    obtain ⟨g, hg, he⟩ := List.mem_map.1 (h1 (List.mem_map.2 ⟨s, hs, rfl⟩))
    exact toldG_iff.2 ⟨g, hg, he⟩
  · rintro ⟨_, h1⟩ s hs
    obtain ⟨x, hx, rfl⟩ := List.mem_map.1 hs
    obtain ⟨g, hg, he⟩ := toldG_iff.1 (h1 x hx)
    exact List.mem_map.2 ⟨g, hg, he⟩
theorem match_no {h : Hub} {k : Nat} (hk : k < h.gras.length) (hn : hasF h.fols h.gras[k].folder = false) : matchB h = false := by
  unfold matchB
  rw [Bool.and_eq_false_iff]
  left
  rw [List.all_eq_false]
  exact ⟨h.gras[k], List.getElem_mem _, by rw [hn]; decide⟩
theorem a_matched (h : Hub) (hl : h.fols.length ≤ 1000000) (hg : h.gras.length ≤ 1000000) (hs : rising folLt h.fols = true) : AFn C.P 40 [hubAV h] (.v (.bool (matchB h))) := by
  have hml := fun ht => match_len (h := h) hs ht
  have hmn := @match_no h
  have hfi := fun p => a_hfind h p (by omega) hs
  obtain ⟨F, G, U, now⟩ := h
  dsimp only at *
  refine acall_intro Tryz.func40 rfl _ Tryz.ntmps40 (Nat.le_of_ble_eq_true rfl) _ Tryz.results40 0 rfl rfl ?_
  (repeat apply awp_seq); apply awp_region; (repeat' (first | apply ops_free | refine o_mv ?_ | refine o_as ?_ | refine o_ld ?_ | refine o_fa ?_ | refine o_bi ?_ | refine o_ln ?_ | refine o_ia ?_ | refine o_no ?_ | refine o_ex ?_ | refine o_al ?_ | refine o_bx ?_ | refine o_sto ?_ | (first | fail) | refine r_nil ?_)); show Awp _ _ _ _ _
  (refine Awp.red (red_freeze 0 rfl ?_) ?_; (intro row hrow; obtain rfl := List.mem_singleton.1 hrow; rfl); refine Awp.red (red_fp 1 0 rfl rfl (Nat.le_of_ble_eq_true rfl)) ?_)
  repeat' (first | refine walk ?_ | (first | (apply opsx_new; apply ex_makeMap; exact nle rfl) | (apply opsx_val; apply ex_len_mp; rfl; rfl; rfl; rfl; exact nle rfl) | (apply opsx_store; apply ex_mapUpdate; rfl; rfl; rfl; rfl; rfl; rfl; rfl; rfl)) | ((first | (apply awp_cond; rfl)); all_goals (intro hc; have hp := hc; first | (simp at hp; done) | ((try simp at hp); first | (exfalso; omega) | skip))) | (apply awp_cond_any; rfl))
  all_goals try (exfalso; omega)
  (refine Awp.red (red_ren (τ := ⟨[(1, .fp [Hub.row ⟨F, G, U, now⟩] 0 0), (3, .mp 0), (10, graAV G), (11, .v (.int .i64 G.length)), (12, .v (.int .i64 ((0 : Nat) : Int)))], [(0, .mp (allM (G.take 0)))], 1⟩) [(1, 0)] rfl ?gts ?ghs) ?gmain; (case gts => (repeat (first | exact tsok_nil | (apply tsok_pure; (case hx => rfl); (case hp => first | rfl | (simp [AV.pure, AV.pure.pureL, *]; done))) | (apply tsok_mp; (case hx => rfl); (case hm => (first | exact maps_low rfl | exact .inr (List.mem_cons_self ..) | exact .inr (List.mem_cons_of_mem _ (List.mem_cons_self ..)) | exact .inr (List.mem_cons_of_mem _ (List.mem_cons_of_mem _ (List.mem_cons_self ..))) | exact .inr (List.mem_cons_of_mem _ (List.mem_cons_of_mem _ (List.mem_cons_of_mem _ (List.mem_cons_self ..))))))) | (apply tsok_op; rfl; (first | exact maps_low rfl | exact .inr (List.mem_cons_self ..) | exact .inr (List.mem_cons_of_mem _ (List.mem_cons_self ..)) | exact .inr (List.mem_cons_of_mem _ (List.mem_cons_of_mem _ (List.mem_cons_self ..))) | exact .inr (List.mem_cons_of_mem _ (List.mem_cons_of_mem _ (List.mem_cons_of_mem _ (List.mem_cons_self ..)))))) | (apply tsok_eq; (conv => lhs; whnf); rotate_left; rfl))); all_goals (rw [List.length_map])); (case ghs => (repeat (first | exact hsok_nil | (apply hsok_mp; (case hm => (first | exact maps_low rfl | exact .inr (List.mem_cons_self ..) | exact .inr (List.mem_cons_of_mem _ (List.mem_cons_self ..)) | exact .inr (List.mem_cons_of_mem _ (List.mem_cons_of_mem _ (List.mem_cons_self ..))) | exact .inr (List.mem_cons_of_mem _ (List.mem_cons_of_mem _ (List.mem_cons_of_mem _ (List.mem_cons_self ..)))))); (case hx => rfl); (case hp => first | assumption | exact nofun | skip); (first | (case hr => rfl) | (case hr => assumption) | rotate_left))))))
  refine awp_loop (fun n σ => ∃ i : Nat, i ≤ G.length ∧ n = G.length - i ∧ (∀ g, g ∈ G.take i → hasF F g.folder = true) ∧ σ = ⟨[(1, .fp [Hub.row ⟨F, G, U, now⟩] 0 0), (3, .mp 0), (10, graAV G), (11, .v (.int .i64 G.length)), (12, .v (.int .i64 (i : Int)))], [(0, .mp (allM (G.take i)))], 1⟩) G.length ⟨0, Nat.zero_le _, rfl, (by simp), rfl⟩ ?_
  rintro n σ ⟨i, hi, rfl, hsofar, rfl⟩
  by_cases hlt : i < G.length
  · have hr := getRow (f := Gra.row) hlt
    have hp1 := keyM_pure ((G.take (i + 1)).map (·.folder))
    have hf := hfi G[i].folder
    have h4 := allM_succ hlt
    cases hh : hasF F G[i].folder with
    | false =>
      rw [hmn hlt hh]
      rw [hh] at hf
      clear hml hmn hfi
      repeat' (first | refine walk ?_ | (first | (apply opsx_new; apply ex_makeMap; exact nle rfl) | (apply opsx_val; apply ex_len_mp; rfl; rfl; rfl; rfl; exact nle rfl) | (apply opsx_store; apply ex_mapUpdate; rfl; rfl; rfl; rfl; rfl; rfl; rfl; rfl) | (apply to_call Tryz.func58 rfl rfl; intro hIsFn; refine o_callp hIsFn (hf ..) ?_)) | ((first | (apply awp_cond; rfl)); all_goals (intro hc; have hp := hc; first | (simp at hp; done) | ((try simp at hp); first | (exfalso; omega) | skip))) | (apply awp_cond_any; rfl))
      all_goals try (exfalso; first | omega | contradiction)
      (refine f_pure (rs := [.tmp 2]) ?_; (repeat' (first | exact rzl_nil | apply rzl_cons | exact rz_pure rfl | exact rz_ex | exact z_os | apply rz_agg | apply rz_tup | apply rz_clo | apply rz_int | apply rz_bool | apply rz_str | refine z_eq ?_ | apply rz_sl)); all_goals trace_state)
    | true =>
      rw [hh] at hf
      clear hml hmn hfi
      repeat' (first | refine walk ?_ | (first | (apply opsx_new; apply ex_makeMap; exact nle rfl) | (apply opsx_val; apply ex_len_mp; rfl; rfl; rfl; rfl; exact nle rfl) | (apply opsx_store; apply ex_mapUpdate; rfl; rfl; rfl; rfl; rfl; rfl; rfl; rfl) | (apply to_call Tryz.func58 rfl rfl; intro hIsFn; refine o_callp hIsFn (hf ..) ?_)) | ((first | (apply awp_cond; rfl)); all_goals (intro hc; have hp := hc; first | (simp at hp; done) | ((try simp at hp); first | (exfalso; omega) | skip))) | (apply awp_cond_any; rfl))
      all_goals try (exfalso; first | omega | contradiction)
      refine ⟨G.length - (i + 1), _, by omega, red_ren (τ := ⟨[(1, .fp [Hub.row ⟨F, G, U, now⟩] 0 0), (3, .mp 0), (10, graAV G), (11, .v (.int .i64 G.length)), (12, .v (.int .i64 ((i + 1 : Nat) : Int)))], [(0, .mp (allM (G.take (i + 1))))], 1⟩) [(0, 0)] rfl ?gts ?ghs, i + 1, by omega, rfl, mem_take_succ hlt hsofar hh, rfl⟩; (case gts => (repeat (first | exact tsok_nil | (apply tsok_pure; (case hx => rfl); (case hp => first | rfl | (simp [AV.pure, AV.pure.pureL, *]; done))) | (apply tsok_mp; (case hx => rfl); (case hm => (first | exact maps_low rfl | exact .inr (List.mem_cons_self ..) | exact .inr (List.mem_cons_of_mem _ (List.mem_cons_self ..)) | exact .inr (List.mem_cons_of_mem _ (List.mem_cons_of_mem _ (List.mem_cons_self ..))) | exact .inr (List.mem_cons_of_mem _ (List.mem_cons_of_mem _ (List.mem_cons_of_mem _ (List.mem_cons_self ..))))))) | (apply tsok_op; rfl; (first | exact maps_low rfl | exact .inr (List.mem_cons_self ..) | exact .inr (List.mem_cons_of_mem _ (List.mem_cons_self ..)) | exact .inr (List.mem_cons_of_mem _ (List.mem_cons_of_mem _ (List.mem_cons_self ..))) | exact .inr (List.mem_cons_of_mem _ (List.mem_cons_of_mem _ (List.mem_cons_of_mem _ (List.mem_cons_self ..)))))) | (apply tsok_eq; (conv => lhs; whnf); rotate_left; rfl)))); (case ghs => (repeat (first | exact hsok_nil | (apply hsok_mp; (case hm => (first | exact maps_low rfl | exact .inr (List.mem_cons_self ..) | exact .inr (List.mem_cons_of_mem _ (List.mem_cons_self ..)) | exact .inr (List.mem_cons_of_mem _ (List.mem_cons_of_mem _ (List.mem_cons_self ..))) | exact .inr (List.mem_cons_of_mem _ (List.mem_cons_of_mem _ (List.mem_cons_of_mem _ (List.mem_cons_self ..)))))); (case hx => rfl); (case hp => first | assumption | exact nofun | skip); (first | (case hr => rfl) | (case hr => assumption) | rotate_left)))); all_goals (first | exact h4.symm | trace_state))
  obtain rfl : i = G.length := by omega
  rw [List.take_length] at hsofar
  rw [← hml hsofar]
  clear hml hmn hfi
  rw [List.take_length]
  generalize allM G = AM at *
  repeat' (first | refine walk ?_ | (first | (apply opsx_new; apply ex_makeMap; exact nle rfl) | (apply opsx_val; apply ex_len_mp; rfl; rfl; rfl; rfl; exact nle rfl) | (apply opsx_store; apply ex_mapUpdate; rfl; rfl; rfl; rfl; rfl; rfl; rfl; rfl)) | ((first | (apply awp_cond; rfl)); all_goals (intro hc; have hp := hc; first | (simp at hp; done) | ((try simp at hp); first | (exfalso; omega) | skip))) | (apply awp_cond_any; rfl))
  all_goals try (exfalso; omega)
  apply fin_bool
  rfl
  simp [Int.ofNat_inj]
end Go.Proofs.YtiljlcgmcmjcoaaGreatDoor
