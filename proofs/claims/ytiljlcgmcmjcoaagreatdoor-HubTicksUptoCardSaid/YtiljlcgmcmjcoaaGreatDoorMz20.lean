import Derived.Test.YtiljlcgmcmjcoaaGreatDoorMz7
import Derived.Test.YtiljlcgmcmjcoaaGreatDoorMz15
import Derived.Test.YtiljlcgmcmjcoaaGreatDoorMz8
import Derived.Test.YtiljlcgmcmjcoaaGreatDoorMz19
set_option linter.unusedSimpArgs false
set_option linter.unnecessarySimpa false
set_option linter.unusedVariables false
namespace Go.Proofs.YtiljlcgmcmjcoaaGreatDoor
open Go.Op
structure Fol where
  name : qC
  jou : Jou
structure Hub where
  fols : List Fol
  gras : List Gra
  ups : Upl
  now : Int
structure Ans where
  err : Int
  num : Int
  page : Pag
def V4 : Jou := ⟨[], 1, []⟩
def Ks : Hub := ⟨[], [], JH, 0⟩
def Ky : Ans := ⟨0, 0, Q3⟩
def Q2 (e : Int) : Ans := ⟨e, 0, Q3⟩
def xz (s : Fol) : Int := if qo s.name = true then xX s.jou else 1
def yM (a b : Fol) : Bool := bytesLess a.name b.name
def xy (l : List Fol) (f : qC) : Bool := l.any (fun s => decide (s.name = f))
def zS (l : List Gra) (f : qC) : Bool := l.any (fun g => decide (g.folder = f))
def vI (h : Hub) : Bool := h.gras.all (fun g => xy h.fols g.folder) && h.fols.all (fun s => zS h.gras s.name)
def xA (h : Hub) : Int :=
  if qA h.now 0 1099511627776 = false then 3
  else if 8 < h.fols.length then 2
  else if ¬ jI xz h.fols = 0 then jI xz h.fols
  else if qt yM h.fols = false then 4
  else if ¬ jH h.gras = 0 then jH h.gras
  else if vI h = false then 5
  else yu h.ups
structure HRight (h : Hub) : Prop where
  now : qA h.now 0 1099511627776 = true
  len : h.fols.length ≤ 8
  each : ∀ s, s ∈ h.fols → qo s.name = true ∧ JRight s.jou
  rise : qt yM h.fols = true
  gra : jH h.gras = 0
  told : ∀ g, g ∈ h.gras → xy h.fols g.folder = true
  known : ∀ s, s ∈ h.fols → zS h.gras s.name = true
  ups : yu h.ups = 0
theorem XO {s : Fol} : xz s = 0 ↔ qo s.name = true ∧ JRight s.jou := by
  unfold xz
  by_cases h : qo s.name = true
  · rw [if_pos h, y5]; simp [h]
  · rw [if_neg h]; simp [h]
theorem zh {h : Hub} : xA h = 0 ↔ HRight h := by
  unfold xA
  constructor
  · intro e
    by_cases h1 : qA h.now 0 1099511627776 = false
    · rw [if_pos h1] at e; omega
    rw [if_neg h1] at e
    by_cases h2 : 8 < h.fols.length
    · rw [if_pos h2] at e; omega
    rw [if_neg h2] at e
    by_cases h3 : jI xz h.fols = 0
    case neg => rw [if_pos h3] at e; exact absurd e h3
    rw [if_neg (fun q => q h3)] at e
    by_cases h4 : qt yM h.fols = false
    · rw [if_pos h4] at e; omega
    rw [if_neg h4] at e
    by_cases h5 : jH h.gras = 0
    case neg => rw [if_pos h5] at e; exact absurd e h5
    rw [if_neg (fun q => q h5)] at e
    by_cases h6 : vI h = false
    · rw [if_pos h6] at e; omega
    rw [if_neg h6] at e
    have h6 : vI h = true := by simpa using h6
    unfold vI at h6
    rw [Bool.and_eq_true, List.all_eq_true, List.all_eq_true] at h6
    exact ⟨by simpa using h1, by omega, fun s hs => XO.1 (jE.1 h3 s hs), by simpa using h4, h5, h6.1, h6.2, e⟩
  · rintro ⟨h1, h2, h3, h4, h5, h6, h7, h8⟩
    have h3 : jI xz h.fols = 0 := jE.2 fun s hs => XO.2 (h3 s hs)
    have h9 : vI h = true := by
      unfold vI
      rw [Bool.and_eq_true, List.all_eq_true, List.all_eq_true]
      exact ⟨h6, h7⟩
    rw [if_neg (by rw [h1]; decide), if_neg (by omega), if_neg (fun q => q h3), if_neg (by rw [h4]; decide), if_neg (fun q => q h5), if_neg (by rw [h9]; decide), h8]
theorem Kx {α : Type} {lt : α → α → Bool} (htr : ∀ a b c, lt a b = true → lt b c = true → lt a c = true) : ∀ {l : List α}, qt lt l = true ↔ l.Pairwise (fun a b => lt a b = true)
  | [] => by simp [qt]
  | [x] => by simp [qt]
  | x :: y :: l => by
    have ih := Kx htr (l := y :: l)
    rw [show qt lt (x :: y :: l) = (lt x y && qt lt (y :: l)) from rfl, Bool.and_eq_true, List.pairwise_cons, ← ih]
    constructor
    · rintro ⟨h1, h2⟩
      refine ⟨fun a ha => ?_, h2⟩
      have h3 := (List.pairwise_cons.1 (ih.1 h2)).1
      rcases List.mem_cons.1 ha with rfl | ha
      · exact h1
      · exact htr _ _ _ h1 (h3 a ha)
    · rintro ⟨h1, h2⟩
      exact ⟨h1 y (List.mem_cons_self ..), h2⟩
theorem JU {l : List Fol} : qt yM l = true ↔ l.Pairwise (fun a b => yM a b = true) := Kx (lt := yM) fun a b c h1 h2 => xZ (a := a.name) (b := b.name) (c := c.name) h1 h2
theorem ZT {l : List Fol} (h : qt yM l = true) : (l.map Fol.name).Nodup := by
  rw [List.Nodup, List.pairwise_map]
  refine (JU.1 h).imp fun {a b} hab e => ?_
  have hab : bytesLess a.name b.name = true := hab
  rw [e, xH] at hab
  cases hab
def xW (l : List Fol) (f : qC) : Nat := (l.takeWhile (fun s => bytesLess s.name f)).length
theorem qfz (f : qC) : ∀ {l : List Fol}, l.Pairwise (fun a b => yM a b = true) → ∃ A M Z, l = A ++ (M ++ Z) ∧ xW l f = A.length ∧ (∀ a, a ∈ A → bytesLess a.name f = true) ∧ (∀ z, z ∈ Z → bytesLess f z.name = true) ∧ ((∃ x, M = [x] ∧ x.name = f) ∨ (M = [] ∧ xy l f = false))
  | [], _ => ⟨[], [], [], rfl, rfl, nofun, nofun, .inr ⟨rfl, rfl⟩⟩
  | x :: l, h => by
    obtain ⟨h1, h2⟩ := List.pairwise_cons.1 h
    rcases wg x.name f with ⟨h3, h4, h5⟩ | ⟨h3, h4, h5⟩ | ⟨h3, h4, h5⟩
    · obtain ⟨A, M, Z, e1, e2, e3, e4, e5⟩ := qfz f h2
      refine ⟨x :: A, M, Z, by rw [e1]; rfl, ?_, ?_, e4, ?_⟩
      · unfold xW at e2 ⊢
        rw [List.takeWhile_cons, if_pos h3, List.length_cons, e2, List.length_cons]
      · intro a ha
        rcases List.mem_cons.1 ha with rfl | ha
        · exact h3
        · exact e3 a ha
      · rcases e5 with e5 | ⟨e5, e6⟩
        · exact .inl e5
        · refine .inr ⟨e5, ?_⟩
          show (decide (x.name = f) || xy l f) = false
          rw [e6, decide_eq_false h5]; rfl
    · refine ⟨[], [x], l, rfl, ?_, nofun, fun z hz => ?_, .inl ⟨x, rfl, h3⟩⟩
      · unfold xW
        rw [List.takeWhile_cons, if_neg (by rw [h4]; decide)]
        try rfl
      · have h6 : bytesLess x.name z.name = true := h1 z hz
        rw [h3] at h6; exact h6
    · have h6 : ∀ z, z ∈ x :: l → bytesLess f z.name = true := fun z hz => by
        rcases List.mem_cons.1 hz with rfl | hz
        · exact h3
        · exact xZ h3 (h1 z hz)
      refine ⟨[], [], x :: l, rfl, ?_, nofun, h6, .inr ⟨rfl, ?_⟩⟩
      · unfold xW
        rw [List.takeWhile_cons, if_neg (by rw [h4]; decide)]
        try rfl
      · refine List.any_eq_false.2 fun z hz => ?_
        have h7 := h6 z hz
        simp only [decide_eq_true_eq]
        rintro rfl
        rw [xH] at h7; cases h7
def kt (l : List Fol) (f : qC) : Option Jou := (l.find? (fun s => decide (s.name = f))).map Fol.jou
def QT (l : List Fol) (f : qC) (j : Jou) : List Fol := l.map (fun s => if s.name = f then ⟨s.name, j⟩ else s)
def JW (l : List Fol) (f : qC) : List Fol := l.take (xW l f) ++ ⟨f, V4⟩ :: l.drop (xW l f)
theorem zG {l : List Fol} {f : qC} : xy l f = true ↔ ∃ s, s ∈ l ∧ s.name = f := by
  unfold xy; rw [List.any_eq_true]; simp
theorem zo {l : List Gra} {f : qC} : zS l f = true ↔ ∃ g, g ∈ l ∧ g.folder = f := by
  unfold zS; rw [List.any_eq_true]; simp
theorem V9 {l : List Fol} {f : qC} : kt l f = none ↔ xy l f = false := by
  unfold kt xy
  rw [Option.map_eq_none_iff, List.find?_eq_none, List.any_eq_false]
theorem Zk {l : List Fol} {f : qC} {j : Jou} (h : kt l f = some j) : ⟨f, j⟩ ∈ l ∧ xy l f = true := by
  unfold kt at h
  obtain ⟨s, h1, rfl⟩ := Option.map_eq_some_iff.1 h
  have h2 := List.find?_some h1
  have h3 : s.name = f := by simpa using h2
  subst h3
  exact ⟨List.mem_of_find?_eq_some h1, zG.2 ⟨s, List.mem_of_find?_eq_some h1, rfl⟩⟩
theorem Zf (l : List Fol) (f : qC) (j : Jou) : (QT l f j).map Fol.name = l.map Fol.name := by
  unfold QT
  rw [List.map_map]
  apply List.map_congr_left
  intro s _
  show (if s.name = f then (⟨s.name, j⟩ : Fol) else s).name = s.name
  split <;> rfl
theorem Yl {l : List Fol} : qt yM l = qt bytesLess (l.map Fol.name) := by
  induction l with
  | nil => rfl
  | cons x l ih =>
    cases l with
    | nil => rfl
    | cons y l =>
      rw [show qt yM (x :: y :: l) = (yM x y && qt yM (y :: l)) from rfl, ih]; rfl
theorem qaE {l : List Fol} {f : qC} {j : Jou} : qt yM (QT l f j) = qt yM l := by rw [Yl, Zf, ← Yl]
theorem Zq {l : List Fol} {f : qC} : xy l f = decide (f ∈ l.map Fol.name) := by
  rw [Bool.eq_iff_iff, zG, decide_eq_true_iff, List.mem_map]
theorem qfd {l : List Fol} {f g : qC} {j : Jou} : xy (QT l f j) g = xy l g := by rw [Zq, Zf, ← Zq]
theorem VY {l : List Fol} {f : qC} {j : Jou} {s : Fol} (h : s ∈ QT l f j) : (s = ⟨f, j⟩ ∧ xy l f = true) ∨ (s ∈ l ∧ ¬ s.name = f) := by
  unfold QT at h
  obtain ⟨x, hx, rfl⟩ := List.mem_map.1 h
  by_cases he : x.name = f
  · rw [if_pos he, he]
    exact .inl ⟨rfl, zG.2 ⟨x, hx, he⟩⟩
  · rw [if_neg he]
    exact .inr ⟨hx, he⟩
theorem qgz {l : List Fol} (h : qt yM l = true) {k : Nat} (hk : k < l.length) {f : qC} (hf : l[k].name = f) (j : Jou) : QT l f j = l.set k ⟨f, j⟩ := by
  apply List.ext_getElem
  · simp [QT]
  · intro i h1 h2
    have hi : i < l.length := by simpa [QT] using h1
    have e : (QT l f j)[i] = (if l[i].name = f then (⟨l[i].name, j⟩ : Fol) else l[i]) := by simp [QT]
    rw [List.getElem_set, e]
    by_cases hik : k = i
    · subst hik; rw [if_pos rfl, if_pos hf, hf]
    · rw [if_neg hik, if_neg]
      intro e
      have := (List.getElem_inj (h₀ := by simpa using hk) (h₁ := by simpa using hi) (ZT h) (i := k) (j := i)).1 (by rw [List.getElem_map, List.getElem_map, hf, e])
      exact hik this
theorem Vk (l : List Fol) (f : qC) : xW l f ≤ l.length := (List.takeWhile_sublist _).length_le
theorem Qe {l : List Fol} {f : qC} {s : Fol} : s ∈ JW l f ↔ s = ⟨f, V4⟩ ∨ s ∈ l := by
  unfold JW
  rw [List.mem_append, List.mem_cons]
  have : s ∈ l ↔ s ∈ l.take (xW l f) ∨ s ∈ l.drop (xW l f) := by rw [← List.mem_append, List.take_append_drop]
  rw [this]
  constructor
  · rintro (h | h | h)
    · exact .inr (.inl h)
    · exact .inl h
    · exact .inr (.inr h)
  · rintro (h | h | h)
    · exact .inr (.inl h)
    · exact .inl h
    · exact .inr (.inr h)
theorem Yq (l : List Fol) (f : qC) : (JW l f).length = l.length + 1 := by
  unfold JW
  have := Vk l f
  simp; omega
theorem qa7 {l : List Fol} {f g : qC} : xy (JW l f) g = true ↔ g = f ∨ xy l g = true := by
  rw [zG, zG]
  constructor
  · rintro ⟨s, hs, rfl⟩
    rcases Qe.1 hs with rfl | hs
    · exact .inl rfl
    · exact .inr ⟨s, hs, rfl⟩
  · rintro (rfl | ⟨s, hs, rfl⟩)
    · exact ⟨_, Qe.2 (.inl rfl), rfl⟩
    · exact ⟨s, Qe.2 (.inr hs), rfl⟩
theorem WZ {l : List Fol} {f : qC} (h : qt yM l = true) (hf : xy l f = false) : qt yM (JW l f) = true := by
  have hp := JU.1 h
  obtain ⟨A, M, Z, e1, e2, e3, e4, e5⟩ := qfz f hp
  have hM : M = [] := by
    rcases e5 with ⟨x, rfl, hx⟩ | ⟨e5, _⟩
    · have : xy l f = true := zG.2 ⟨x, by rw [e1]; simp, hx⟩
      rw [this] at hf; cases hf
    · exact e5
  subst hM
  rw [List.nil_append] at e1
  have hi : JW l f = A ++ ⟨f, V4⟩ :: Z := by
    unfold JW
    rw [e2, e1, List.take_left, List.drop_left]
  rw [hi, JU, List.pairwise_append]
  rw [e1, List.pairwise_append] at hp
  refine ⟨hp.1, List.pairwise_cons.2 ⟨fun z hz => e4 z hz, hp.2.1⟩, fun a ha b hb => ?_⟩
  rcases List.mem_cons.1 hb with rfl | hb
  · exact e3 a ha
  · exact hp.2.2 a ha b hb
def mineK (u : Upl) (who : qC) (number now : Int) : Nat := (yg (zd who number) (qP u.sess now)).toNat
def zT (u : Upl) (who : qC) (number now : Int) : Sess := ((qP u.sess now)[mineK u who number now]?).getD zeroSess
def QM (u : Upl) (who : qC) (size now : Int) : Upl × Int × Int := if yQ u who size now = 0 then (Ym u who size now, u.next, 0) else (JH, 0, yQ u who size now)
def qhk (u : Upl) (k : Nat) (s : Sess) (offset : Int) (text : qC) (now : Int) : Upl × Int × Int :=
  if JI s offset text = 0 then ({ u with sess := (qP u.sess now).set k (YY s offset text (now + u.lasts)) }, ((YY s offset text (now + u.lasts)).text.length : Int), 0) else (JH, 0, JI s offset text)
def QN (u : Upl) (who : qC) (number offset : Int) (text : qC) (now : Int) : Upl × Int × Int :=
  if ye u who number now = 0 then qhk u (mineK u who number now) (zT u who number now) offset text now else (JH, 0, ye u who number now)
def ZB (u : Upl) (who : qC) (number now : Int) : Int × Int := if ye u who number now = 0 then (((zT u who number now).text.length : Int), 0) else (0, ye u who number now)
def zO (u : Upl) (who : qC) (number now : Int) : Upl × qC × Int :=
  if ye u who number now = 0 then (if (zT u who number now).text.length < (zT u who number now).size then (JH, [], 4) else (qgF u now (mineK u who number now), (zT u who number now).text, 0)) else (JH, [], ye u who number now)
def zE (l : List Gra) (f b w : qC) (r : Int) : List Gra × Int := if jR l f b w r = 0 then (we (xO l f w r) f, yR (xO l f w r) f) else ([], jR l f b w r)
def ZE (h : Hub) (x : Upl × Int × Int) : Hub × Ans := if x.2.2 = 0 then ({ h with ups := x.1 }, ⟨0, x.2.1, Q3⟩) else (h, Q2 x.2.2)
def KL (h : Hub) (r : Rqt) (u : Upl) (l : List Chg) : Hub × Ans :=
  match kt h.fols r.folder with
  | none => (h, Ky)
  | some j => if (vw j r.key l).2.2 = 0 then ({ h with fols := QT h.fols r.folder (vw j r.key l).1, ups := u }, ⟨0, (vw j r.key l).2.1, Q3⟩) else (h, Q2 (vw j r.key l).2.2)
def JG (h : Hub) (r : Rqt) : Hub × Ans :=
  if j5 h.gras r.folder r.who = 0 then (if h.fols.length = 8 then (h, Q2 2) else ({ h with fols := JW h.fols r.folder, gras := xO h.gras r.folder r.who 3 }, Ky)) else (h, Q2 (j5 h.gras r.folder r.who))
def Kq (h : Hub) (r : Rqt) : Hub × Ans :=
  if jY h.gras r.folder r.who < 1 then (h, Q2 9)
  else if (zE h.gras r.folder r.who r.name r.number).2 = 0 then ({ h with gras := (zE h.gras r.folder r.who r.name r.number).1 }, Ky) else (h, Q2 (zE h.gras r.folder r.who r.name r.number).2)
def ZZ (h : Hub) (r : Rqt) : Hub × Ans :=
  if jY h.gras r.folder r.who < 1 then (h, Q2 9) else
  match kt h.fols r.folder with
  | none => (h, Ky)
  | some j => if (X4 j r.number 10).2 = 0 then (h, ⟨0, 0, (X4 j r.number 10).1⟩) else (h, Q2 (X4 j r.number 10).2)
def qfc (h : Hub) (r : Rqt) : Hub × Ans := if (ZB h.ups r.who r.number h.now).2 = 0 then (h, ⟨0, (ZB h.ups r.who r.number h.now).1, Q3⟩) else (h, Q2 (ZB h.ups r.who r.number h.now).2)
def qfv (h : Hub) (r : Rqt) : Hub × Ans :=
  if (zO h.ups r.who r.number h.now).2.2 = 0 then KL h r (zO h.ups r.who r.number h.now).1 [⟨2, r.name, [], (zO h.ups r.who r.number h.now).2.1, r.base⟩] else (h, Q2 (zO h.ups r.who r.number h.now).2.2)
def W4 (h : Hub) (r : Rqt) : Hub × Ans := if jY h.gras r.folder r.who < 2 then (h, Q2 9) else if r.kind = 7 then qfv h r else KL h r h.ups r.chs
def zH (h : Hub) (r : Rqt) : Hub × Ans :=
  if ¬ (1 ≤ r.kind ∧ r.kind ≤ 8) then (h, Q2 7)
  else if qo r.who = false then (h, Q2 1)
  else if r.kind = 8 then JG h r
  else if r.kind = 3 then Kq h r
  else if r.kind = 2 then ZZ h r
  else if r.kind = 4 then ZE h (QM h.ups r.who r.number h.now)
  else if r.kind = 5 then ZE h (QN h.ups r.who r.number r.offset r.text h.now)
  else if r.kind = 6 then qfc h r
  else W4 h r
end Go.Proofs.YtiljlcgmcmjcoaaGreatDoor
set_option linter.unusedSimpArgs false
set_option linter.unusedVariables false
namespace Go.Proofs.YtiljlcgmcmjcoaaGreatDoor
open Go.Ab Go.RowKit
def Y3 (l : List Sess) : AV := .sl false (l.map Sess.row)
def Fol.row (s : Fol) : List AV := [.v (str s.name), qp s.jou.base, .v (.int .i64 s.jou.first), zu s.jou.coms]
def wY (l : List Fol) : AV := .sl false (l.map Fol.row)
def Hub.row (h : Hub) : List AV := [wY h.fols, jw h.gras, .sl false (h.ups.sess.map Sess.row), .v (.int .i64 h.ups.next), .v (.int .i64 h.ups.lasts), .v (.int .i64 h.ups.room), .v (.int .i64 h.now)]
def vS (h : Hub) : AV := .agg h.row
def Ans.row (a : Ans) : List AV := [.v (.int .i64 a.err), .v (.int .i64 a.num), .v (.bool a.page.reset), qp a.page.tree, zu a.page.coms, .v (.int .i64 a.page.cur), .v (.bool a.page.more)]
def VZ (a : Ans) : AV := .agg a.row
structure Fol.small (s : Fol) : Prop where
  name : s.name.length ≤ 1000000000
  jou : JBig s.jou
structure FBig (l : List Fol) : Prop where
  each : ∀ s, s ∈ l → s.small
  len : l.length ≤ 1000000000
structure SBig (l : List Sess) : Prop where
  each : ∀ s, s ∈ l → s.small
  len : l.length ≤ 1000000000
structure HBig (h : Hub) : Prop where
  fols : FBig h.fols
  gras : GBig h.gras
  sess : SBig h.ups.sess
structure RBig (r : Rqt) : Prop where
  who : r.who.length ≤ 1000000000
  folder : r.folder.length ≤ 1000000000
  name : r.name.length ≤ 1000000000
  key : r.key.length ≤ 1000000000
  text : r.text.length ≤ 1000000000
  chs : CBig r.chs
theorem HBig.ups {h : Hub} (hb : HBig h) : UBig h.ups := ⟨fun s hs => Nat.le_trans (hb.sess.each s hs).1 (by decide), fun s hs => (hb.sess.each s hs).2, Nat.le_trans hb.sess.len (by decide)⟩
theorem jQ {n : Nat} (h : n ≤ 1000000000) : n ≤ 140737488355328 := Nat.le_trans h (by decide)
theorem qgb {n : Nat} {xs : List AV} (h : zC C.tab 1000000000 n 88 xs) : ∃ s : Gra, xs = s.row ∧ s.small := by
  cases n with
  | zero => exact h.elim
  | succ n =>
    obtain ⟨_, _, rfl, h0, _, _, rfl, h1, _, _, rfl, h2, rfl⟩ := (show ww C.tab 0 _ = some _ → Vb (zC C.tab 1000000000 n) [(0, 9), (1, 9), (2, 3)] xs from h) rfl
    obtain ⟨a0, rfl, l0⟩ := za h0
    obtain ⟨a1, rfl, l1⟩ := za h1
    obtain ⟨a2, rfl, _⟩ := vx h2
    exact ⟨⟨a0, a1, a2⟩, rfl, jQ l0, jQ l1⟩
theorem qdT {n : Nat} {xs : List AV} (h : zC C.tab 1000000000 n 23 xs) : ∃ t : List Gra, xs = [jw t] ∧ GBig t := by
  cases n with
  | zero => exact h.elim
  | succ n =>
    obtain ⟨rows, he, hb, hr⟩ := (show (3 : Nat) ≠ 0 → ∃ rows, xs = [AV.sl false rows] ∧ rows.length * 40 ≤ 1000000000 ∧ ∀ row, row ∈ rows → zC C.tab 1000000000 n 88 row from h) (by decide)
    obtain ⟨l, rfl, hl⟩ := wq (f := Gra.row) (ok := Gra.small) (fun row hrow => qgb (hr row hrow))
    refine ⟨l, he, hl, ?_⟩
    simp at hb; omega
theorem qfW {n : Nat} {xs : List AV} (h : zC C.tab 1000000000 n 78 xs) : ∃ s : Sess, xs = s.row ∧ s.small := by
  cases n with
  | zero => exact h.elim
  | succ n =>
    obtain ⟨_, _, rfl, h0, _, _, rfl, h1, _, _, rfl, h2, _, _, rfl, h3, _, _, rfl, h4, rfl⟩ := (show ww C.tab 0 _ = some _ → Vb (zC C.tab 1000000000 n) [(0, 3), (1, 9), (2, 9), (3, 3), (4, 3)] xs from h) rfl
    obtain ⟨a0, rfl, _⟩ := vx h0
    obtain ⟨a1, rfl, l1⟩ := za h1
    obtain ⟨a2, rfl, l2⟩ := za h2
    obtain ⟨a3, rfl, _⟩ := vx h3
    obtain ⟨a4, rfl, _⟩ := vx h4
    exact ⟨⟨a0, a1, a2, a3, a4⟩, rfl, jQ l1, jQ l2⟩
theorem qec {n : Nat} {xs : List AV} (h : zC C.tab 1000000000 n 24 xs) : ∃ t, xs = [Y3 t] ∧ SBig t := by
  cases n with
  | zero => exact h.elim
  | succ n =>
    obtain ⟨rows, he, hb, hr⟩ := (show (5 : Nat) ≠ 0 → ∃ rows, xs = [AV.sl false rows] ∧ rows.length * 56 ≤ 1000000000 ∧ ∀ row, row ∈ rows → zC C.tab 1000000000 n 78 row from h) (by decide)
    obtain ⟨l, rfl, hl⟩ := wq (f := Sess.row) (ok := Sess.small) (fun row hrow => qfW (hr row hrow))
    refine ⟨l, he, hl, ?_⟩
    simp at hb; omega
theorem qf9 {n : Nat} {xs : List AV} (h : zC C.tab 1000000000 n 62 xs) : ∃ s : Fol, xs = s.row ∧ s.small := by
  cases n with
  | zero => exact h.elim
  | succ n =>
    obtain ⟨_, _, rfl, h0, _, _, rfl, h1, rfl⟩ := (show ww C.tab 0 _ = some _ → Vb (zC C.tab 1000000000 n) [(0, 9), (1, 60)] xs from h) rfl
    obtain ⟨a0, rfl, l0⟩ := za h0
    obtain ⟨a1, rfl, l1⟩ := qgd h1
    exact ⟨⟨a0, a1⟩, rfl, l0, l1⟩
theorem qeB {n : Nat} {xs : List AV} (h : zC C.tab 1000000000 n 22 xs) : ∃ t, xs = [wY t] ∧ FBig t := by
  cases n with
  | zero => exact h.elim
  | succ n =>
    obtain ⟨rows, he, hb, hr⟩ := (show (4 : Nat) ≠ 0 → ∃ rows, xs = [AV.sl false rows] ∧ rows.length * 72 ≤ 1000000000 ∧ ∀ row, row ∈ rows → zC C.tab 1000000000 n 62 row from h) (by decide)
    obtain ⟨l, rfl, hl⟩ := wq (f := Fol.row) (ok := Fol.small) (fun row hrow => qf9 (hr row hrow))
    refine ⟨l, he, hl, ?_⟩
    simp at hb; omega
theorem qgi {n : Nat} {xs : List AV} (h : zC C.tab 1000000000 n 26 xs) : ∃ u : Upl, xs = u.row ∧ SBig u.sess := by
  cases n with
  | zero => exact h.elim
  | succ n =>
    obtain ⟨_, _, rfl, h0, _, _, rfl, h1, _, _, rfl, h2, _, _, rfl, h3, rfl⟩ := (show ww C.tab 0 _ = some _ → Vb (zC C.tab 1000000000 n) [(0, 24), (1, 3), (2, 3), (3, 3)] xs from h) rfl
    obtain ⟨a0, rfl, l0⟩ := qec h0
    obtain ⟨a1, rfl, _⟩ := vx h1
    obtain ⟨a2, rfl, _⟩ := vx h2
    obtain ⟨a3, rfl, _⟩ := vx h3
    exact ⟨⟨a0, a1, a2, a3⟩, rfl, l0⟩
theorem qgB {n : Nat} {xs : List AV} (h : zC C.tab 1000000000 n 28 xs) : ∃ h : Hub, xs = h.row ∧ HBig h := by
  cases n with
  | zero => exact h.elim
  | succ n =>
    obtain ⟨_, _, rfl, h0, _, _, rfl, h1, _, _, rfl, h2, _, _, rfl, h3, rfl⟩ := (show ww C.tab 0 _ = some _ → Vb (zC C.tab 1000000000 n) [(0, 22), (1, 23), (2, 26), (6, 3)] xs from h) rfl
    obtain ⟨a0, rfl, l0⟩ := qeB h0
    obtain ⟨a1, rfl, l1⟩ := qdT h1
    obtain ⟨a2, rfl, l2⟩ := qgi h2
    obtain ⟨a3, rfl, _⟩ := vx h3
    exact ⟨⟨a0, a1, a2, a3⟩, rfl, l0, l1, l2⟩
theorem qf7 {y : AV} (h : qab C.tab 1000000000 28 y) : ∃ c, y = .agg (Hub.row c) ∧ HBig c := by
  obtain ⟨n, xs, rfl, h2⟩ := (show ∃ n xs, y = .agg xs ∧ zC C.tab 1000000000 n 28 xs from h)
  obtain ⟨c, rfl, hc⟩ := qgB h2
  exact ⟨c, rfl, hc⟩
end Go.Proofs.YtiljlcgmcmjcoaaGreatDoor
set_option linter.unusedSimpArgs false
set_option linter.unnecessarySimpa false
set_option linter.unusedVariables false
namespace Go.Proofs.YtiljlcgmcmjcoaaGreatDoor
open Go.Op
theorem qbo : JRight V4 := y5.1 (by rfl)
theorem V3 {l : List Gra} {f w : qC} (h : ¬ jY l f w = 0) : zS l f = true := by
  unfold jY at h
  cases hg : l.find? (sameKey ⟨f, w, 0⟩) with
  | none => rw [hg] at h; exact absurd rfl h
  | some g =>
    have h1 := List.mem_of_find?_eq_some hg
    have h2 := xu.1 (List.find?_some hg)
    exact zo.2 ⟨g, h1, h2.1⟩
theorem HRight.has {h : Hub} (hr : HRight h) {f : qC} : xy h.fols f = zS h.gras f := by
  rw [Bool.eq_iff_iff]
  constructor
  · intro e
    obtain ⟨s, hs, rfl⟩ := zG.1 e
    exact hr.known s hs
  · intro e
    obtain ⟨g, hg, rfl⟩ := zo.1 e
    exact hr.told g hg
theorem Qj {j : Jou} (h : JRight j) (key : qC) (l : List Chg) : vw j key l = yV j key l := by
  unfold yV; rw [if_neg (by simp [y5.2 h])]
theorem ZK {j : Jou} (h : JRight j) {key : qC} {l : List Chg} (hz : (vw j key l).2.2 = 0) : JRight (vw j key l).1 := by
  rw [Qj h] at hz ⊢
  rcases YQ (j := j) (key := key) (l := l) with ⟨e, he, h1⟩ | ⟨_, _, ⟨c, _, h1⟩ | ⟨_, hR, h1⟩⟩
  · rw [h1] at hz; exact absurd hz he
  · rw [h1]; exact h
  · rw [h1]; exact hR
theorem Qc {u : Upl} {who : qC} {number now : Int} (h : ye u who number now = 0) : jD u now = 0 ∧ qo who = true ∧ yg (zd who number) (qP u.sess now) = (mineK u who number now : Int) ∧ (qP u.sess now)[mineK u who number now]? = some (zT u who number now) ∧ zd who number (zT u who number now) = true := by
  unfold ye at h
  by_cases h1 : jD u now = 0
  case neg => rw [if_neg h1] at h; exact absurd h h1
  rw [if_pos h1] at h
  by_cases h2 : qo who = true
  case neg => rw [if_neg h2] at h; omega
  rw [if_pos h2] at h
  by_cases h3 : yg (zd who number) (qP u.sess now) < 0
  · rw [if_pos h3] at h; omega
  rcases xt (zd who number) (qP u.sess now) with ⟨e, _⟩ | ⟨k, hk, e, _, e3⟩
  · omega
  have hK : mineK u who number now = k := by unfold mineK; rw [e]; rfl
  have hS : zT u who number now = (qP u.sess now)[k] := by unfold zT; rw [hK, List.getElem?_eq_getElem hk]; rfl
  rw [hK, hS]
  exact ⟨h1, h2, e, List.getElem?_eq_getElem hk, e3⟩
theorem YP {α β : Type} {f : α → β} {L : List α} {k : Nat} {s s' : α} (h : L[k]? = some s) (hf : f s' = f s) : (L.set k s').map f = L.map f := by
  obtain ⟨hk, rfl⟩ := List.getElem?_eq_some_iff.1 h
  apply List.ext_getElem
  · simp
  · intro i h1 h2
    rw [List.getElem_map, List.getElem_map, List.getElem_set]
    by_cases hi : k = i
    · subst hi; rw [if_pos rfl, hf]
    · rw [if_neg hi]
theorem qeb (s : Sess) (offset : Int) (text : qC) (till : Int) : (YY s offset text till).number = s.number ∧ (YY s offset text till).who = s.who ∧ (YY s offset text till).size = s.size := by
  unfold YY; split <;> exact ⟨rfl, rfl, rfl⟩
theorem Y0 {u : Upl} {now : Int} (h : jD u now = 0) : yu u = 0 ∧ qA now 0 1099511627776 = true := by
  unfold jD at h
  by_cases h1 : yu u = 0
  · rw [if_pos h1] at h
    by_cases h2 : qA now 0 1099511627776 = true
    · exact ⟨h1, h2⟩
    · rw [if_neg h2] at h; omega
  · rw [if_neg h1] at h; exact absurd h h1
theorem vl {n a b : Int} : qA n a b = true ↔ a ≤ n ∧ n ≤ b := by unfold qA; simp
theorem ZF {u : Upl} {now : Int} (hb : jD u now = 0) {k : Nat} {s : Sess} (hs : (qP u.sess now)[k]? = some s) {offset : Int} {text : qC} (he : JI s offset text = 0) : yu { u with sess := (qP u.sess now).set k (YY s offset text (now + u.lasts)) } = 0 := by
  obtain ⟨h1, h2⟩ := Y0 hb
  obtain ⟨a, b, c, d, e⟩ := z6 (QW now h1)
  obtain ⟨w1, w2⟩ := vl.1 h2
  have hh : vT u = true := a
  unfold vT at hh
  simp only [Bool.and_eq_true, vl] at hh
  obtain ⟨n1, n2, n3⟩ := qeb s offset text (now + u.lasts)
  have hm : s ∈ qP u.sess now := List.mem_of_getElem? hs
  have hnum := YP (f := fun x : Sess => x.number) hs n1
  have hof : ∀ who, jX ((qP u.sess now).set k (YY s offset text (now + u.lasts))) who = jX (qP u.sess now) who := fun who => by
    unfold jX
    rw [YP (f := fun x : Sess => if x.who = who then x.size else 0) hs (by simp only [n2, n3])]
  have hse : j9 u.next (YY s offset text (now + u.lasts)) = 0 := by
    have hc : j9 u.next s = 0 := c s hm
    show j9 u.next _ = 0
    unfold YY
    by_cases hg : zU s.text offset text = true
    · rw [if_pos hg]; exact hc
    · rw [if_neg hg]
      unfold JI at he
      rw [if_neg hg] at he
      have hlen : ¬ s.size < s.text.length + text.length := by
        intro hx
        by_cases ho : offset = s.text.length
        · rw [if_pos ho, if_pos hx] at he; omega
        · rw [if_neg ho] at he; omega
      unfold j9 at hc ⊢
      have hw3 : qA (now + u.lasts) 0 2199023255552 = true := vl.2 (by omega)
      simp only [hw3, Bool.and_true]
      by_cases h7 : (qA s.number 1 (u.next - 1) && qA s.size 0 300 && qA s.till 0 2199023255552) = true
      · rw [if_pos h7] at hc
        simp only [Bool.and_eq_true] at h7
        rw [if_pos (by simp [h7])]
        by_cases h8 : qo s.who = true
        · rw [if_pos h8, if_neg (by simp only [List.length_append]; push_cast; omega)]
        · rw [if_neg h8] at hc; omega
      · rw [if_neg h7] at hc; omega
  refine Yf a (by show (List.set _ _ _).length ≤ 20; rw [List.length_set]; exact b) (fun x hx => ?_) ?_ (fun x hx => ?_)
  · rcases List.mem_or_eq_of_mem_set hx with h | rfl
    · exact c x h
    · exact hse
  · have := (List.pairwise_map (f := fun x : Sess => x.number) (R := fun a b : Int => a < b)).2 d
    show List.Pairwise (fun a b : Sess => a.number < b.number) ((qP u.sess now).set k _)
    rw [← List.pairwise_map (f := fun x : Sess => x.number) (R := fun a b : Int => a < b), hnum]
    exact this
  · show jX ((qP u.sess now).set k _) x.who ≤ u.room
    rw [hof]
    rcases List.mem_or_eq_of_mem_set hx with h | rfl
    · exact e x h
    · rw [n2]; exact e s hm
theorem qbZ {l l' : List Sess} (who : qC) (h : l'.Sublist l) (h0 : ∀ s, s ∈ l → 0 ≤ s.size) : jX l' who ≤ jX l who := by
  induction h with
  | slnil => exact Int.le_refl _
  | cons a _ ih =>
    rw [ki]
    have := ih fun s hs => h0 s (List.mem_cons_of_mem _ hs)
    have := h0 a (List.mem_cons_self ..)
    split <;> omega
  | cons_cons a _ ih =>
    rw [ki, ki]
    have := ih fun s hs => h0 s (List.mem_cons_of_mem _ hs)
    omega
theorem ZQ {u : Upl} {now : Int} (hb : jD u now = 0) (k : Nat) : yu (qgF u now k) = 0 := by
  obtain ⟨h1, h2⟩ := Y0 hb
  obtain ⟨a, b, c, d, e⟩ := z6 (QW now h1)
  have hsub : ((qP u.sess now).eraseIdx k).Sublist (qP u.sess now) := List.eraseIdx_sublist _ _
  refine Yf a (Nat.le_trans hsub.length_le b) (fun x hx => c x (hsub.subset hx)) (List.Pairwise.sublist hsub d) (fun x hx => ?_)
  have := qbZ x.who hsub fun s hs => (vk (c s hs)).1
  have := e x (hsub.subset hx)
  show jX ((qP u.sess now).eraseIdx k) x.who ≤ u.room
  have h3 : (JT u now).room = u.room := rfl
  have h4 : (JT u now).sess = qP u.sess now := rfl
  rw [h3, h4] at this
  omega
structure Serves (h : Hub) (x : Hub × Ans) : Prop where
  right : HRight x.1
  same : ¬ x.2.err = 0 → x = (h, Q2 x.2.err)
theorem y7 {h : Hub} (hr : HRight h) (e : Int) : Serves h (h, Q2 e) := ⟨hr, fun _ => rfl⟩
theorem zq {h h' : Hub} {a : Ans} (hr : HRight h') (ha : a.err = 0) : Serves h (h', a) := ⟨hr, fun e => absurd ha e⟩
theorem HRight.setUps {h : Hub} (hr : HRight h) {u : Upl} (hu : yu u = 0) : HRight { h with ups := u } := ⟨hr.now, hr.len, hr.each, hr.rise, hr.gra, hr.told, hr.known, hu⟩
theorem VD {h : Hub} (hr : HRight h) {x : Upl × Int × Int} (hx : x.2.2 = 0 → yu x.1 = 0) : Serves h (ZE h x) := by
  unfold ZE
  by_cases h0 : x.2.2 = 0
  · rw [if_pos h0]; exact zq (hr.setUps (hx h0)) rfl
  · rw [if_neg h0]; exact y7 hr _
theorem qb5 {u : Upl} {who : qC} {size now : Int} (h : (QM u who size now).2.2 = 0) : yu (QM u who size now).1 = 0 := by
  unfold QM at h ⊢
  by_cases h0 : yQ u who size now = 0
  · rw [if_pos h0]; exact W7 h0
  · rw [if_neg h0] at h; exact absurd h h0
theorem qbY {u : Upl} {who : qC} {number offset : Int} {text : qC} {now : Int} (h : (QN u who number offset text now).2.2 = 0) : yu (QN u who number offset text now).1 = 0 := by
  unfold QN at h ⊢
  by_cases h0 : ye u who number now = 0
  · rw [if_pos h0] at h ⊢
    obtain ⟨m1, m2, m3, m4, m5⟩ := Qc h0
    unfold qhk at h ⊢
    by_cases h1 : JI (zT u who number now) offset text = 0
    · rw [if_pos h1]; exact ZF m1 m4 h1
    · rw [if_neg h1] at h; exact absurd h h1
  · rw [if_neg h0] at h; exact absurd h h0
theorem qcl {u : Upl} {who : qC} {number now : Int} (h : (zO u who number now).2.2 = 0) : yu (zO u who number now).1 = 0 := by
  unfold zO at h ⊢
  by_cases h0 : ye u who number now = 0
  · rw [if_pos h0] at h ⊢
    by_cases h1 : (zT u who number now).text.length < (zT u who number now).size
    · rw [if_pos h1] at h; exact absurd h (by decide)
    · rw [if_neg h1]; exact ZQ (Qc h0).1 _
  · rw [if_neg h0] at h; exact absurd h h0
theorem Zh {h : Hub} (hr : HRight h) {r : Rqt} {u : Upl} {l : List Chg} (hu : yu u = 0) : Serves h (KL h r u l) := by
  unfold KL
  cases hj : kt h.fols r.folder with
  | none => exact zq hr rfl
  | some j =>
    obtain ⟨hm, hh⟩ := Zk hj
    have hJ : JRight j := (hr.each _ hm).2
    dsimp only
    by_cases h0 : (vw j r.key l).2.2 = 0
    · rw [if_pos h0]
      refine zq ⟨hr.now, by show (QT _ _ _).length ≤ 8; unfold QT; rw [List.length_map]; exact hr.len, fun s hs => ?_, by rw [qaE]; exact hr.rise, hr.gra, fun g hg => by show xy (QT _ _ _) _ = true; rw [qfd]; exact hr.told g hg, fun s hs => ?_, hu⟩ rfl
      · rcases VY hs with ⟨rfl, _⟩ | ⟨hs, _⟩
        · exact ⟨(hr.each _ hm).1, ZK hJ h0⟩
        · exact hr.each s hs
      · rcases VY hs with ⟨rfl, _⟩ | ⟨hs, _⟩
        · exact hr.known ⟨r.folder, j⟩ hm
        · exact hr.known s hs
    · rw [if_neg h0]; exact y7 hr _
theorem qch {h : Hub} (hr : HRight h) (r : Rqt) : Serves h (qfv h r) := by
  unfold qfv
  by_cases h0 : (zO h.ups r.who r.number h.now).2.2 = 0
  · rw [if_pos h0]; exact Zh hr (qcl h0)
  · rw [if_neg h0]; exact y7 hr _
theorem qaO {h : Hub} (hr : HRight h) (r : Rqt) : Serves h (ZZ h r) := by
  unfold ZZ
  split
  · exact y7 hr _
  · split
    · exact zq hr rfl
    · split
      · exact zq hr rfl
      · exact y7 hr _
theorem qfx {l : List Gra} {f w : qC} {r : Int} (hs : qt jA l = true) (hr : ¬ r = 0) : ∃ g, g ∈ xO l f w r ∧ g.folder = f ∧ g.right = r := by
  have h1 := qbd (l := l) (f := f) (w := w) (r := r) hs
  unfold jY at h1
  cases hg : (xO l f w r).find? (sameKey ⟨f, w, 0⟩) with
  | none => rw [hg] at h1; exact absurd h1.symm hr
  | some g =>
    rw [hg] at h1
    exact ⟨g, List.mem_of_find?_eq_some hg, (xu.1 (List.find?_some hg)).1, h1⟩
theorem Kj {l : List Gra} {f w g : qC} {r : Int} (hs : qt jA l = true) (h : zS l g = true) (hg : ¬ g = f) : zS (xO l f w r) g = true := by
  obtain ⟨x, hx, rfl⟩ := zo.1 h
  exact zo.2 ⟨x, qaI hs hx (by rw [Bool.eq_false_iff]; intro e; exact hg (xu.1 e).1), rfl⟩
theorem XI {l : List Gra} {f w : qC} (h : j5 l f w = 0) : jH l = 0 ∧ qo f = true ∧ qo w = true ∧ zS l f = false ∧ ¬ l.length = 60 := by
  unfold j5 at h
  by_cases h1 : jH l = 0
  case neg => rw [if_neg h1] at h; exact absurd h h1
  rw [if_pos h1] at h
  by_cases h2 : (qo f && qo w) = true
  case neg => rw [if_neg h2] at h; omega
  rw [if_pos h2] at h
  by_cases h3 : l.any (x6 f) = true
  · rw [if_pos h3] at h; omega
  rw [if_neg h3] at h
  by_cases h4 : l.length = 60
  · rw [if_pos h4] at h; omega
  rw [Bool.and_eq_true] at h2
  refine ⟨h1, h2.1, h2.2, ?_, h4⟩
  have : l.any (x6 f) = false := by simpa using h3
  exact this
theorem K9 {h : Hub} (hr : HRight h) {r : Rqt} (h0 : j5 h.gras r.folder r.who = 0) (h8 : ¬ h.fols.length = 8) : HRight { h with fols := JW h.fols r.folder, gras := xO h.gras r.folder r.who 3 } := by
  obtain ⟨g1, g2, g3, g4, g5⟩ := XI h0
  obtain ⟨a1, a2, a3, a4⟩ := xE g1
  have hf : xy h.fols r.folder = false := by rw [hr.has]; exact g4
  obtain ⟨x, hx, hxf, hxr⟩ := qfx (f := r.folder) (w := r.who) (r := 3) a3 (by decide)
  have hlen := hr.len
  refine ⟨hr.now, by show (JW _ _).length ≤ 8; rw [Yq]; omega, fun s hs => ?_, WZ hr.rise hf, Zn g1 g2 g3 (by decide) (List.any_eq_true.2 ⟨x, hx, Y9.2 ⟨hxf, hxr⟩⟩) ?_, fun g hg => ?_, fun s hs => ?_, hr.ups⟩
  · rcases Qe.1 hs with rfl | hs
    · exact ⟨g2, qbo⟩
    · exact hr.each s hs
  · have := VF (l := h.gras) (f := r.folder) (w := r.who) (r := 3); omega
  · rcases Q9 a3 hg with hg | ⟨_, rfl⟩
    · exact qa7.2 (.inr (hr.told g hg))
    · exact qa7.2 (.inl rfl)
  · rcases Qe.1 hs with rfl | hs
    · exact zo.2 ⟨x, hx, hxf⟩
    · refine Kj a3 (hr.known s hs) fun e => ?_
      rw [zG.2 ⟨s, hs, e⟩] at hf; cases hf
theorem ZC {h : Hub} (hr : HRight h) (r : Rqt) : Serves h (JG h r) := by
  unfold JG
  by_cases h0 : j5 h.gras r.folder r.who = 0
  · rw [if_pos h0]
    by_cases h8 : h.fols.length = 8
    · rw [if_pos h8]; exact y7 hr _
    · rw [if_neg h8]; exact zq (K9 hr h0 h8) rfl
  · rw [if_neg h0]; exact y7 hr _
theorem qde {l : List Gra} {f b w : qC} {r : Int} (h : jR l f b w r = 0) : jH l = 0 ∧ qo f = true ∧ qo b = true ∧ qo w = true ∧ 0 ≤ r ∧ r ≤ 3 := by
  unfold jR at h
  by_cases h1 : jH l = 0
  case neg => rw [if_neg h1] at h; exact absurd h h1
  rw [if_pos h1] at h
  by_cases h2 : (qo f && (qo b && qo w)) = true
  case neg => rw [if_neg h2] at h; omega
  rw [if_pos h2] at h
  by_cases h3 : qA r 0 3 = true
  case neg => rw [if_neg h3] at h; omega
  simp only [Bool.and_eq_true] at h2
  obtain ⟨w1, w2⟩ := vl.1 h3
  exact ⟨h1, h2.1, h2.2.1, h2.2.2, w1, w2⟩
theorem Z4 {L : List Gra} {f : qC} (h : yR L f = 0) : L.any (kE f) = true ∧ L.length ≤ 60 ∧ we L f = L := by
  have hl : we L f = L := by unfold we; rw [if_pos h]
  unfold yR at h
  by_cases h1 : L.any (kE f) = true
  · rw [if_pos h1] at h
    by_cases h2 : 60 < L.length
    · rw [if_pos h2] at h; omega
    · exact ⟨h1, by omega, hl⟩
  · rw [if_neg h1] at h; omega
theorem Z7 {l : List Gra} {f b w : qC} {r : Int} (h : (zE l f b w r).2 = 0) : jR l f b w r = 0 ∧ yR (xO l f w r) f = 0 ∧ (zE l f b w r).1 = xO l f w r := by
  unfold zE at h ⊢
  by_cases h1 : jR l f b w r = 0
  · rw [if_pos h1] at h ⊢
    exact ⟨h1, h, (Z4 h).2.2⟩
  · rw [if_neg h1] at h; exact absurd h h1
theorem qb8 {h : Hub} (hr : HRight h) {r : Rqt} (h1 : ¬ jY h.gras r.folder r.who < 1) (h0 : (zE h.gras r.folder r.who r.name r.number).2 = 0) : HRight { h with gras := (zE h.gras r.folder r.who r.name r.number).1 } := by
  obtain ⟨e1, e2, e3⟩ := Z7 h0
  obtain ⟨g1, g2, g3, g4, g5, g6⟩ := qde e1
  obtain ⟨k1, k2, _⟩ := Z4 e2
  obtain ⟨a1, a2, a3, a4⟩ := xE g1
  rw [e3]
  have hf : xy h.fols r.folder = true := by rw [hr.has]; exact V3 (w := r.who) (by omega)
  refine ⟨hr.now, hr.len, hr.each, hr.rise, Zn g1 g2 g4 ⟨g5, g6⟩ k1 k2, fun g hg => ?_, fun s hs => ?_, hr.ups⟩
  · rcases Q9 a3 hg with hg | ⟨_, rfl⟩
    · exact hr.told g hg
    · exact hf
  · by_cases he : s.name = r.folder
    · obtain ⟨x, hx, hxo⟩ := List.any_eq_true.1 k1
      exact zo.2 ⟨x, hx, by rw [he]; exact (Y9.1 hxo).1⟩
    · exact Kj a3 (hr.known s hs) he
theorem WS {h : Hub} (hr : HRight h) (r : Rqt) : Serves h (Kq h r) := by
  unfold Kq
  by_cases h1 : jY h.gras r.folder r.who < 1
  · rw [if_pos h1]; exact y7 hr _
  · rw [if_neg h1]
    by_cases h0 : (zE h.gras r.folder r.who r.name r.number).2 = 0
    · rw [if_pos h0]; exact zq (qb8 hr h1 h0) rfl
    · rw [if_neg h0]; exact y7 hr _
theorem XH {h : Hub} (hr : HRight h) (r : Rqt) : Serves h (zH h r) := by
  unfold zH
  split
  · exact y7 hr _
  split
  · exact y7 hr _
  split
  · exact ZC hr r
  split
  · exact WS hr r
  split
  · exact qaO hr r
  split
  · exact VD hr qb5
  split
  · exact VD hr qbY
  split
  · unfold qfc
    split
    · exact zq hr rfl
    · exact y7 hr _
  · unfold W4
    split
    · exact y7 hr _
    split
    · exact qch hr r
    · exact Zh hr hr.ups
end Go.Proofs.YtiljlcgmcmjcoaaGreatDoor
set_option linter.unusedSimpArgs false
set_option linter.unnecessarySimpa false
set_option linter.unusedVariables false
namespace Go.Proofs.YtiljlcgmcmjcoaaGreatDoor
open Go.Op
structure SameView (h x : Hub) (f : qC) : Prop where
  jou : kt x.fols f = kt h.fols f
  right : ∀ w, jY x.gras f w = jY h.gras f w
def qcY (h : Hub) (f : qC) : List Ent × Int := match kt h.fols f with | none => ([], 5) | some j => (xV j, 0)
def qaM (h : Hub) (f : qC) : List Ent × Int := if xA h = 0 then qcY h f else ([], xA h)
end Go.Proofs.YtiljlcgmcmjcoaaGreatDoor
set_option linter.unusedSimpArgs false
set_option linter.unnecessarySimpa false
set_option linter.unusedVariables false
set_option maxHeartbeats 1000000
namespace Go.Proofs.YtiljlcgmcmjcoaaGreatDoor
open Go.Ab Go.RowKit
open Go.Op (bytesLess)
set_option maxRecDepth 10000
attribute [local irreducible] Awp jZ jg qJ Red qz Go.Ab.Fin qm Rz y0 qB qG ResOk jG q9 jK qV
def atF (p : qC) (x : Fol) : Bool := decide (x.name = p)
theorem QD {t : List Fol} (h : qt yM t = true) : ∀ (j k : Nat) (hj : j < t.length) (hk : k < t.length), j < k → bytesLess t[j].name t[k].name = true := by
  intro j k hj hk hjk
  induction k with
  | zero => omega
  | succ k ih =>
    have h1 : bytesLess t[k].name t[k + 1].name = true := jW.1 h k hk
    by_cases e : j = k
    · subst e; exact h1
    · exact xZ (ih (by omega) (by omega)) h1
theorem KJ {p : qC} : ∀ {t : List Fol} {k : Nat}, k ≤ t.length → (∀ (j : Nat) (h : j < t.length), j < k → bytesLess t[j].name p = true) → (∀ (h : k < t.length), bytesLess t[k].name p = false) → xW t p = k
  | [], k, hk, _, _ => by simp at hk; simp [xW, hk]
  | x :: l, 0, hk, _, h2 => by
    have := h2 (by simp)
    simp only [List.getElem_cons_zero] at this
    simp [xW, List.takeWhile_cons, this]
  | x :: l, k + 1, hk, h1, h2 => by
    have hx : bytesLess x.name p = true := h1 0 (by simp) (by omega)
    have := KJ (t := l) (k := k) (by simpa using hk) (fun j h hj => h1 (j + 1) (by simpa using h) (by omega)) (fun h => h2 (by simpa using h))
    simp only [xW] at this
    simp [xW, List.takeWhile_cons, hx, this]
theorem qcP {t : List Fol} {p : qC} (hs : qt yM t = true) {k : Nat} (hk : k < t.length) (he : t[k].name = p) : xW t p = k := by
  refine KJ (by omega) (fun j hj hjk => ?_) (fun _ => ?_)
  · rw [← he]; exact QD hs j k hj hk hjk
  · rw [← he]; exact xH _
theorem qan {t : List Fol} {p : qC} (hs : qt yM t = true) : xy t p = (match t[xW t p]? with | some x => decide (vv x.name p = 0) | none => false) := by
  rcases xt (atF p) t with ⟨_, h2⟩ | ⟨k, hk, _, _, h3⟩
  · have : xy t p = false := List.any_eq_false.2 (fun x hx => by have := h2 x hx; simpa [atF] using this)
    rw [this]
    split
    · rename_i x hx
      have hm := List.mem_of_getElem? hx
      have := h2 x hm
      rw [eq_comm, decide_eq_false_iff_not, xd]
      simpa [atF] using this
    · rfl
  · have he : t[k].name = p := by simpa [atF] using h3
    have : xy t p = true := List.any_eq_true.2 ⟨t[k], List.getElem_mem _, h3⟩
    rw [this, qcP hs hk he, List.getElem?_eq_getElem hk]
    simp [he, XW]
theorem KP {t : List Fol} {p : qC} (hs : qt yM t = true) (h : xy t p = true) : ∃ hk : xW t p < t.length, t[xW t p].name = p ∧ t.find? (atF p) = some t[xW t p] ∧ yg (atF p) t = xW t p := by
  obtain ⟨x, hx, hk⟩ := List.any_eq_true.1 h
  obtain ⟨k, hkl, rfl⟩ := List.getElem_of_mem hx
  have he : t[k].name = p := by simpa [atF] using hk
  have hp := qcP hs hkl he
  have hbef : ∀ j (hj : j < k), atF p (t[j]'(by omega)) = false := fun j hj => by
    have h1 := QD hs j k (by omega) hkl hj
    have : ¬ t[j].name = p := fun e => by rw [e, he, xH] at h1; cases h1
    simp [atF, this]
  refine ⟨by omega, by simp only [hp]; exact he, ?_, ?_⟩
  · simp only [hp]
    rw [List.find?_eq_some_iff_getElem]
    exact ⟨hk, k, hkl, rfl, fun j hj => by rw [hbef j hj]; rfl⟩
  · rw [hp]
    refine vV hkl (fun x hx => ?_) hk
    obtain ⟨j, hj, rfl⟩ := List.getElem_of_mem hx
    rw [List.getElem_take]
    exact hbef j (by simp at hj; omega)
theorem qc8 {t : List Fol} {p : qC} (h : xy t p = false) : t.find? (atF p) = none ∧ yg (atF p) t = -1 := by
  have h1 := List.any_eq_false.1 h
  exact ⟨List.find?_eq_none.2 h1, xU fun x hx => by simpa [atF] using h1 x hx⟩
theorem Wd (e : Fol) (p : qC) : jT C.P 99 [.agg e.row, .v (str p)] (.v (.int .i64 (vv e.name p))) := by
  refine qa Tryz.func99 rfl _ Tryz.ntmps99 (Nat.le_of_ble_eq_true rfl) _ Tryz.results99 0 rfl rfl ?_
  repeat' (first | refine qe ?_ | (first | refine xsF Tryz.func100 (Xu ..) ?_) | ((first | refine xsC ?_ ?_); all_goals (intro hc; have hp := hc; try simp at hp; try (exfalso; omega))) | refine qv ?_ ?_)
  all_goals (apply qE; rfl; rfl)
theorem qdp (l : List Fol) (p : qC) (hl : l.length ≤ 1000000000) (hs : qt yM l = true) :
    jT C.P 98 [wY l, .v (str p), .clo (.func 99) [] []] (.tup [.v (.int .i64 (xW l p)), .v (.bool (xy l p))]) := by
  refine qa Tryz.func98 rfl _ Tryz.ntmps98 (Nat.le_of_ble_eq_true rfl) _ Tryz.results98 0 rfl rfl ?_
  repeat' (first | refine qe ?_ | fail | ((first | refine qb ?_ ?_ | refine qc ?_ ?_ | refine xsC ?_ ?_); all_goals (intro hc; have hp := hc; try simp at hp; try (exfalso; omega))) | refine qv ?_ ?_)
  (refine Awp.red (qf (ts := [(0, wY l), (1, .v (str p)), (2, .clo (.func 99) [] []), (8, .v (.int .i64 l.length)), (9, .v (.int .i64 ((0 : Nat) : Int))), (10, .v (.int .i64 l.length))]) ?_) ?_; ((repeat (first | exact qd | refine qi ?_ | refine qL ?_ ?_))))
  all_goals try (rw [List.length_map]; done)
  refine qr (fun n σ => ∃ lo hi : Nat, lo ≤ hi ∧ hi ≤ l.length ∧ n = hi - lo ∧ (∀ (k : Nat) (h : k < l.length), k < lo → Op.bytesLess l[k].name p = true) ∧ (∀ (k : Nat) (h : k < l.length), hi ≤ k → Op.bytesLess l[k].name p = false) ∧ σ = ⟨[(0, wY l), (1, .v (str p)), (2, .clo (.func 99) [] []), (8, .v (.int .i64 l.length)), (9, .v (.int .i64 ((lo : Nat) : Int))), (10, .v (.int .i64 ((hi : Nat) : Int)))], [], C.nh⟩) l.length ⟨0, l.length, by omega, Nat.le_refl _, rfl, fun _ _ h => absurd h (by omega), fun _ _ h => absurd h (by omega), rfl⟩ ?_
  rintro n σ ⟨lo, hi, hle, hhi, rfl, h1, h2, rfl⟩
  by_cases hlt : lo < hi
  · obtain ⟨m, hm⟩ : ∃ m : Nat, m = (lo + hi) / 2 := ⟨_, rfl⟩
    have hmi : ((lo : Int) + (hi : Int)) / 2 = (m : Int) := by omega
    have hml : m < l.length := by omega
    have hr := qx (f := Fol.row) hml
    have hr2 : (l.map Fol.row)[(((lo : Int) + (hi : Int)) / 2).toNat]? = some l[m].row := by rw [hmi]; exact hr
    repeat' (first | refine qe ?_ | (first | (apply qj; first | (apply XA; rfl; rfl; rfl; rfl; rfl; omega; omega; exact nle rfl) | (apply Xg; rfl; rfl; rfl; rfl; rfl; omega; omega; exact nle rfl)) | (apply qj; apply KY; (case hx => rfl); (case hy => rfl); (case hk => decide); (case hN => exact nle rfl)) | (refine v6 Tryz.func99 (Wd ..) ?_)) | ((first | refine qb ?_ ?_ | refine qc ?_ ?_ | refine xsC ?_ ?_); all_goals (intro hc; have hp := hc; try simp at hp; try (exfalso; omega))) | refine qv ?_ ?_)
    all_goals try (exfalso; omega)
    · have hmg : Op.bytesLess l[m].name p = true := (z2 _ _).1 hp
      refine ⟨hi - (m + 1), _, by omega, qf (ts := [(0, wY l), (1, .v (str p)), (2, .clo (.func 99) [] []), (8, .v (.int .i64 l.length)), (9, .v (.int .i64 ((m + 1 : Nat) : Int))), (10, .v (.int .i64 ((hi : Nat) : Int)))]) ?_, m + 1, hi, by omega, hhi, rfl, fun k h hk => ?_, h2, rfl⟩
      · (repeat (first | exact qd | refine qi ?_ | refine qL ?_ ?_))
        all_goals (rw [hmi]; rfl)
      · by_cases e : k = m
        · subst e; exact hmg
        · exact xZ (QD hs k m h hml (by omega)) hmg
    · have hmg : Op.bytesLess l[m].name p = false := (by
        cases h : Op.bytesLess l[m].name p
        · rfl
        · have := (z2 _ _).2 h; omega)
      refine ⟨m - lo, _, by omega, qf (ts := [(0, wY l), (1, .v (str p)), (2, .clo (.func 99) [] []), (8, .v (.int .i64 l.length)), (9, .v (.int .i64 ((lo : Nat) : Int))), (10, .v (.int .i64 ((m : Nat) : Int)))]) ?_, lo, m, by omega, by omega, rfl, h1, fun k h hk => ?_, rfl⟩
      · (repeat (first | exact qd | refine qi ?_ | refine qL ?_ ?_))
        all_goals (rw [hmi])
      · by_cases e : k = m
        · subst e; exact hmg
        · cases hkg : Op.bytesLess l[k].name p
          · rfl
          · rw [xZ (QD hs m k hml h (by omega)) hkg] at hmg; cases hmg
  obtain rfl : lo = hi := by omega
  have hpos : xW l p = lo := KJ hhi h1 (fun h => h2 lo h (by omega))
  by_cases hin : lo < l.length
  · have hr := qx (f := Fol.row) hin
    have hhit : xy l p = decide (vv l[lo].name p = 0) := by
      rw [qan hs, hpos, List.getElem?_eq_getElem hin]
    repeat' (first | refine qe ?_ | (first | (refine v6 Tryz.func99 (Wd ..) ?_)) | ((first | refine qb ?_ ?_ | refine qc ?_ ?_ | refine xsC ?_ ?_); all_goals (intro hc; have hp := hc; try simp at hp; try (exfalso; omega))) | refine qv ?_ ?_)
    all_goals try (exfalso; omega)
    rw [hpos, hhit]
    (exact yy (rs := [.tmp 6, .tmp 7]))
  · have hhit : xy l p = false := by
      rw [qan hs, hpos, List.getElem?_eq_none (by omega)]
    repeat' (first | refine qe ?_ | (first | (refine v6 Tryz.func99 (Wd ..) ?_)) | ((first | refine qb ?_ ?_ | refine qc ?_ ?_ | refine xsC ?_ ?_); all_goals (intro hc; have hp := hc; try simp at hp; try (exfalso; omega))) | refine qv ?_ ?_)
    all_goals try (exfalso; omega)
    rw [hpos, hhit]
    (exact yy (rs := [.tmp 6, .tmp 7]))
theorem Yk (h : Hub) (p : qC) (hl : h.fols.length ≤ 1000000000) (hs : qt yM h.fols = true) :
    jT C.P 58 [vS h, .v (str p)] (.tup [.v (.int .i64 (xW h.fols p)), .v (.bool (xy h.fols p))]) := by
  have hse := qdp h.fols p hl hs
  refine qa Tryz.func58 rfl _ Tryz.ntmps58 (Nat.le_of_ble_eq_true rfl) _ Tryz.results58 0 rfl rfl ?_
  repeat' (first | refine qe ?_ | (first | refine xsQ Tryz.func98 (hse ..) ?_) | ((first | refine xsC ?_ ?_); all_goals (intro hc; have hp := hc; try simp at hp; try (exfalso; omega))) | refine qv ?_ ?_)
  (exact yy (rs := [.tmp 4, .tmp 5]))
theorem qda {h : Hub} (hs : qt yM h.fols = true) (ht : ∀ g, g ∈ h.gras → xy h.fols g.folder = true) : decide ((Yt h.gras).length = h.fols.length) = vI h := by
  have hn := ZT hs
  have hsub : h.gras.map (·.folder) ⊆ h.fols.map Fol.name := by
    intro s hs
    obtain ⟨g, hg, rfl⟩ := List.mem_map.1 hs
    obtain ⟨x, hx, he⟩ := zG.1 (ht g hg)
    exact List.mem_map.2 ⟨x, hx, he⟩
  have hl : (zw (h.fols.map Fol.name)).length = h.fols.length := by
    have := (J7 (h.fols.map Fol.name) h.fols.length (by simp)).2
    rw [show (h.fols.map Fol.name).take h.fols.length = h.fols.map Fol.name from List.take_of_length_le (by simp)] at this
    exact this.2 hn
  rw [Bool.eq_iff_iff, decide_eq_true_iff, Yt, ← hl, WG hsub]
  unfold vI
  rw [Bool.and_eq_true, List.all_eq_true, List.all_eq_true]
  constructor
  · intro h1
    refine ⟨ht, fun s hs => ?_⟩
    obtain ⟨g, hg, he⟩ := List.mem_map.1 (h1 (List.mem_map.2 ⟨s, hs, rfl⟩))
    exact zo.2 ⟨g, hg, he⟩
  · rintro ⟨_, h1⟩ s hs
    obtain ⟨x, hx, rfl⟩ := List.mem_map.1 hs
    obtain ⟨g, hg, he⟩ := zo.1 (h1 x hx)
    exact List.mem_map.2 ⟨g, hg, he⟩
theorem qaS {h : Hub} {k : Nat} (hk : k < h.gras.length) (hn : xy h.fols h.gras[k].folder = false) : vI h = false := by
  unfold vI
  rw [Bool.and_eq_false_iff]
  left
  rw [List.all_eq_false]
  exact ⟨h.gras[k], List.getElem_mem _, by rw [hn]; decide⟩
theorem qd7 (h : Hub) (hl : h.fols.length ≤ 1000000) (hg : h.gras.length ≤ 1000000) (hs : qt yM h.fols = true) : jT C.P 40 [vS h] (.v (.bool (vI h))) := by
  have hml := fun ht => qda (h := h) hs ht
  have hmn := @qaS h
  have hfi := fun p => Yk h p (by omega) hs
  obtain ⟨F, G, U, now⟩ := h
  dsimp only at *
  refine qa Tryz.func40 rfl _ Tryz.ntmps40 (Nat.le_of_ble_eq_true rfl) _ Tryz.results40 0 rfl rfl ?_
  (repeat apply jP); apply jd; (repeat' (first | apply jz | refine vD ?_ | refine vB ?_ | refine vE ?_ | refine zJ ?_ | refine vC ?_ | refine zj ?_ | refine kz ?_ | refine wc ?_ | refine wX ?_ | refine ko ?_ | refine vF ?_ | refine vc ?_ | (first | fail) | refine yY ?_)); show Awp _ _ _ _ _
  refine zD 1 0 ?_
  repeat' (first | refine qe ?_ | (first | (apply yZ; apply vG; exact nle rfl) | (apply qj; apply vP; rfl; rfl; rfl; rfl; exact nle rfl) | (apply xl; apply xP; rfl; rfl; rfl; rfl; rfl; rfl; rfl; rfl)) | ((first | refine xsC ?_ ?_); all_goals (intro hc; have hp := hc; try simp at hp; try (exfalso; omega))) | refine qv ?_ ?_)
  all_goals try (exfalso; omega)
  (refine Awp.red (jt (τ := ⟨[(1, .fp [Hub.row ⟨F, G, U, now⟩] 0 0), (3, .mp 0), (10, jw G), (11, .v (.int .i64 G.length)), (12, .v (.int .i64 ((0 : Nat) : Int)))], [(0, .mp (Yt (G.take 0)))], 1⟩) [(1, 0)] rfl ?gts ?ghs) ?gmain; (case gts => (repeat (first | exact qd | (apply kX; (case hx => rfl); (case hp => first | rfl | (simp [AV.pure, AV.pure.pureL, *]; done))) | (apply Jt; (case hx => rfl); (case hm => (first | exact jm rfl | exact .inr (List.mem_cons_self ..) | exact .inr (List.mem_cons_of_mem _ (List.mem_cons_self ..)) | exact .inr (List.mem_cons_of_mem _ (List.mem_cons_of_mem _ (List.mem_cons_self ..))) | exact .inr (List.mem_cons_of_mem _ (List.mem_cons_of_mem _ (List.mem_cons_of_mem _ (List.mem_cons_self ..))))))) | (apply JA; rfl; (first | exact jm rfl | exact .inr (List.mem_cons_self ..) | exact .inr (List.mem_cons_of_mem _ (List.mem_cons_self ..)) | exact .inr (List.mem_cons_of_mem _ (List.mem_cons_of_mem _ (List.mem_cons_self ..))) | exact .inr (List.mem_cons_of_mem _ (List.mem_cons_of_mem _ (List.mem_cons_of_mem _ (List.mem_cons_self ..)))))) | (apply YJ; (conv => lhs; whnf); rotate_left; rfl))); all_goals (rw [List.length_map])); (case ghs => (repeat (first | exact qh | (apply Ye; (case hm => (first | exact jm rfl | exact .inr (List.mem_cons_self ..) | exact .inr (List.mem_cons_of_mem _ (List.mem_cons_self ..)) | exact .inr (List.mem_cons_of_mem _ (List.mem_cons_of_mem _ (List.mem_cons_self ..))) | exact .inr (List.mem_cons_of_mem _ (List.mem_cons_of_mem _ (List.mem_cons_of_mem _ (List.mem_cons_self ..)))))); (case hx => rfl); (case hp => first | assumption | exact nofun | skip); (first | (case hr => rfl) | (case hr => assumption) | rotate_left))))))
  refine qr (fun n σ => ∃ i : Nat, i ≤ G.length ∧ n = G.length - i ∧ (∀ g, g ∈ G.take i → xy F g.folder = true) ∧ σ = ⟨[(1, .fp [Hub.row ⟨F, G, U, now⟩] 0 0), (3, .mp 0), (10, jw G), (11, .v (.int .i64 G.length)), (12, .v (.int .i64 (i : Int)))], [(0, .mp (Yt (G.take i)))], 1⟩) G.length ⟨0, Nat.zero_le _, rfl, (by simp), rfl⟩ ?_
  rintro n σ ⟨i, hi, rfl, hsofar, rfl⟩
  by_cases hlt : i < G.length
  · have hr := qx (f := Gra.row) hlt
    have hp1 := JD ((G.take (i + 1)).map (·.folder))
    have hf := hfi G[i].folder
    have h4 := Kt hlt
    cases hh : xy F G[i].folder with
    | false =>
      rw [hmn hlt hh]
      rw [hh] at hf
      clear hml hmn hfi
      repeat' (first | refine qe ?_ | (first | (apply yZ; apply vG; exact nle rfl) | (apply qj; apply vP; rfl; rfl; rfl; rfl; exact nle rfl) | (apply xl; apply xP; rfl; rfl; rfl; rfl; rfl; rfl; rfl; rfl) | refine xsQ Tryz.func58 (hf ..) ?_) | ((first | refine xsC ?_ ?_); all_goals (intro hc; have hp := hc; try simp at hp; try (exfalso; omega))) | refine qv ?_ ?_)
      all_goals try (exfalso; first | omega | contradiction)
      (exact yy (rs := [.tmp 2]))
    | true =>
      rw [hh] at hf
      clear hml hmn hfi
      repeat' (first | refine qe ?_ | (first | (apply yZ; apply vG; exact nle rfl) | (apply qj; apply vP; rfl; rfl; rfl; rfl; exact nle rfl) | (apply xl; apply xP; rfl; rfl; rfl; rfl; rfl; rfl; rfl; rfl) | refine xsQ Tryz.func58 (hf ..) ?_) | ((first | refine xsC ?_ ?_); all_goals (intro hc; have hp := hc; try simp at hp; try (exfalso; omega))) | refine qv ?_ ?_)
      all_goals try (exfalso; first | omega | contradiction)
      refine ⟨G.length - (i + 1), _, by omega, jt (τ := ⟨[(1, .fp [Hub.row ⟨F, G, U, now⟩] 0 0), (3, .mp 0), (10, jw G), (11, .v (.int .i64 G.length)), (12, .v (.int .i64 ((i + 1 : Nat) : Int)))], [(0, .mp (Yt (G.take (i + 1))))], 1⟩) [(0, 0)] rfl ?gts ?ghs, i + 1, by omega, rfl, qK hlt hsofar hh, rfl⟩; (case gts => (repeat (first | exact qd | (apply kX; (case hx => rfl); (case hp => first | rfl | (simp [AV.pure, AV.pure.pureL, *]; done))) | (apply Jt; (case hx => rfl); (case hm => (first | exact jm rfl | exact .inr (List.mem_cons_self ..) | exact .inr (List.mem_cons_of_mem _ (List.mem_cons_self ..)) | exact .inr (List.mem_cons_of_mem _ (List.mem_cons_of_mem _ (List.mem_cons_self ..))) | exact .inr (List.mem_cons_of_mem _ (List.mem_cons_of_mem _ (List.mem_cons_of_mem _ (List.mem_cons_self ..))))))) | (apply JA; rfl; (first | exact jm rfl | exact .inr (List.mem_cons_self ..) | exact .inr (List.mem_cons_of_mem _ (List.mem_cons_self ..)) | exact .inr (List.mem_cons_of_mem _ (List.mem_cons_of_mem _ (List.mem_cons_self ..))) | exact .inr (List.mem_cons_of_mem _ (List.mem_cons_of_mem _ (List.mem_cons_of_mem _ (List.mem_cons_self ..)))))) | (apply YJ; (conv => lhs; whnf); rotate_left; rfl)))); (case ghs => (repeat (first | exact qh | (apply Ye; (case hm => (first | exact jm rfl | exact .inr (List.mem_cons_self ..) | exact .inr (List.mem_cons_of_mem _ (List.mem_cons_self ..)) | exact .inr (List.mem_cons_of_mem _ (List.mem_cons_of_mem _ (List.mem_cons_self ..))) | exact .inr (List.mem_cons_of_mem _ (List.mem_cons_of_mem _ (List.mem_cons_of_mem _ (List.mem_cons_self ..)))))); (case hx => rfl); (case hp => first | assumption | exact nofun | skip); (first | (case hr => rfl) | (case hr => assumption) | rotate_left)))); all_goals (first | exact h4.symm | trace_state))
  obtain rfl : i = G.length := by omega
  rw [List.take_length] at hsofar
  rw [← hml hsofar]
  clear hml hmn hfi
  rw [List.take_length]
  generalize Yt G = AM at *
  repeat' (first | refine qe ?_ | (first | (apply yZ; apply vG; exact nle rfl) | (apply qj; apply vP; rfl; rfl; rfl; rfl; exact nle rfl) | (apply xl; apply xP; rfl; rfl; rfl; rfl; rfl; rfl; rfl; rfl)) | ((first | refine xsC ?_ ?_); all_goals (intro hc; have hp := hc; try simp at hp; try (exfalso; omega))) | refine qv ?_ ?_)
  all_goals try (exfalso; omega)
  apply qU
  rfl
  simp [Int.ofNat_inj]
end Go.Proofs.YtiljlcgmcmjcoaaGreatDoor
