import Derived.Test.YtiljlcgmcmjcoaaGreatDoorMz7
import Derived.Test.YtiljlcgmcmjcoaaGreatDoorMz15
import Derived.Test.YtiljlcgmcmjcoaaGreatDoorMz8
import Derived.Test.YtiljlcgmcmjcoaaGreatDoorMz19
set_option linter.unusedSimpArgs false
set_option linter.unnecessarySimpa false
set_option linter.unusedVariables false
namespace Go.Proofs.YtiljlcgmcmjcoaaGreatDoor
open Go.Op
structure Fol where
  name : qB
  jou : Jou
structure Hub where
  fols : List Fol
  gras : List Gra
  ups : Upl
  now : Int
structure Ans where
  err : Int
  num : Int
  page : Pag
def Zi : Jou := ⟨[], 1, []⟩
def qhb : Hub := ⟨[], [], Js, 0⟩
def ZC : Ans := ⟨0, 0, QI⟩
def QT (e : Int) : Ans := ⟨e, 0, QI⟩
def xo (s : Fol) : Int := if qo s.name = true then xH s.jou else 1
def yE (a b : Fol) : Bool := bytesLess a.name b.name
def xr (l : List Fol) (f : qB) : Bool := l.any (fun s => decide (s.name = f))
def zD (l : List Gra) (f : qB) : Bool := l.any (fun g => decide (g.folder = f))
def vu (h : Hub) : Bool := h.gras.all (fun g => xr h.fols g.folder) && h.fols.all (fun s => zD h.gras s.name)
def vj (h : Hub) : Int :=
  if qz h.now 0 1099511627776 = false then 3
  else if 8 < h.fols.length then 2
  else if ¬ jF xo h.fols = 0 then jF xo h.fols
  else if qr yE h.fols = false then 4
  else if ¬ jE h.gras = 0 then jE h.gras
  else if vu h = false then 5
  else yq h.ups
structure HRight (h : Hub) : Prop where
  now : qz h.now 0 1099511627776 = true
  len : h.fols.length ≤ 8
  each : ∀ s, s ∈ h.fols → qo s.name = true ∧ JRight s.jou
  rise : qr yE h.fols = true
  gra : jE h.gras = 0
  told : ∀ g, g ∈ h.gras → xr h.fols g.folder = true
  known : ∀ s, s ∈ h.fols → zD h.gras s.name = true
  ups : yq h.ups = 0
theorem XO {s : Fol} : xo s = 0 ↔ qo s.name = true ∧ JRight s.jou := by
  unfold xo
  by_cases h : qo s.name = true
  · rw [if_pos h, y7]; simp [h]
  · rw [if_neg h]; simp [h]
theorem wb {h : Hub} : vj h = 0 ↔ HRight h := by
  unfold vj
  constructor
  · intro e
    by_cases h1 : qz h.now 0 1099511627776 = false
    · rw [if_pos h1] at e; omega
    rw [if_neg h1] at e
    by_cases h2 : 8 < h.fols.length
    · rw [if_pos h2] at e; omega
    rw [if_neg h2] at e
    by_cases h3 : jF xo h.fols = 0
    case neg => rw [if_pos h3] at e; exact absurd e h3
    rw [if_neg (fun q => q h3)] at e
    by_cases h4 : qr yE h.fols = false
    · rw [if_pos h4] at e; omega
    rw [if_neg h4] at e
    by_cases h5 : jE h.gras = 0
    case neg => rw [if_pos h5] at e; exact absurd e h5
    rw [if_neg (fun q => q h5)] at e
    by_cases h6 : vu h = false
    · rw [if_pos h6] at e; omega
    rw [if_neg h6] at e
    have h6 : vu h = true := by simpa using h6
    unfold vu at h6
    rw [Bool.and_eq_true, List.all_eq_true, List.all_eq_true] at h6
    exact ⟨by simpa using h1, by omega, fun s hs => XO.1 (jz.1 h3 s hs), by simpa using h4, h5, h6.1, h6.2, e⟩
  · rintro ⟨h1, h2, h3, h4, h5, h6, h7, h8⟩
    have h3 : jF xo h.fols = 0 := jz.2 fun s hs => XO.2 (h3 s hs)
    have h9 : vu h = true := by
      unfold vu
      rw [Bool.and_eq_true, List.all_eq_true, List.all_eq_true]
      exact ⟨h6, h7⟩
    rw [if_neg (by rw [h1]; decide), if_neg (by omega), if_neg (fun q => q h3), if_neg (by rw [h4]; decide), if_neg (fun q => q h5), if_neg (by rw [h9]; decide), h8]
theorem ZP {α : Type} {lt : α → α → Bool} (htr : ∀ a b c, lt a b = true → lt b c = true → lt a c = true) : ∀ {l : List α}, qr lt l = true ↔ l.Pairwise (fun a b => lt a b = true)
  | [] => by simp [qr]
  | [x] => by simp [qr]
  | x :: y :: l => by
    have ih := ZP htr (l := y :: l)
    rw [show qr lt (x :: y :: l) = (lt x y && qr lt (y :: l)) from rfl, Bool.and_eq_true, List.pairwise_cons, ← ih]
    constructor
    · rintro ⟨h1, h2⟩
      refine ⟨fun a ha => ?_, h2⟩
      have h3 := (List.pairwise_cons.1 (ih.1 h2)).1
      rcases List.mem_cons.1 ha with rfl | ha
      · exact h1
      · exact htr _ _ _ h1 (h3 a ha)
    · rintro ⟨h1, h2⟩
      exact ⟨h1 y (List.mem_cons_self ..), h2⟩
theorem JW {l : List Fol} : qr yE l = true ↔ l.Pairwise (fun a b => yE a b = true) := ZP (lt := yE) fun a b c h1 h2 => xJ (a := a.name) (b := b.name) (c := c.name) h1 h2
theorem Kb {l : List Fol} (h : qr yE l = true) : (l.map Fol.name).Nodup := by
  rw [List.Nodup, List.pairwise_map]
  refine (JW.1 h).imp fun {a b} hab e => ?_
  have hab : bytesLess a.name b.name = true := hab
  rw [e, xu] at hab
  cases hab
def xP (l : List Fol) (f : qB) : Nat := (l.takeWhile (fun s => bytesLess s.name f)).length
theorem qeF (f : qB) : ∀ {l : List Fol}, l.Pairwise (fun a b => yE a b = true) → ∃ A M Z, l = A ++ (M ++ Z) ∧ xP l f = A.length ∧ (∀ a, a ∈ A → bytesLess a.name f = true) ∧ (∀ z, z ∈ Z → bytesLess f z.name = true) ∧ ((∃ x, M = [x] ∧ x.name = f) ∨ (M = [] ∧ xr l f = false))
  | [], _ => ⟨[], [], [], rfl, rfl, nofun, nofun, .inr ⟨rfl, rfl⟩⟩
  | x :: l, h => by
    obtain ⟨h1, h2⟩ := List.pairwise_cons.1 h
    rcases wc x.name f with ⟨h3, h4, h5⟩ | ⟨h3, h4, h5⟩ | ⟨h3, h4, h5⟩
    · obtain ⟨A, M, Z, e1, e2, e3, e4, e5⟩ := qeF f h2
      refine ⟨x :: A, M, Z, by rw [e1]; rfl, ?_, ?_, e4, ?_⟩
      · unfold xP at e2 ⊢
        rw [List.takeWhile_cons, if_pos h3, List.length_cons, e2, List.length_cons]
      · intro a ha
        rcases List.mem_cons.1 ha with rfl | ha
        · exact h3
        · exact e3 a ha
      · rcases e5 with e5 | ⟨e5, e6⟩
        · exact .inl e5
        · refine .inr ⟨e5, ?_⟩
          show (decide (x.name = f) || xr l f) = false
          rw [e6, decide_eq_false h5]; rfl
    · refine ⟨[], [x], l, rfl, ?_, nofun, fun z hz => ?_, .inl ⟨x, rfl, h3⟩⟩
      · unfold xP
        rw [List.takeWhile_cons, if_neg (by rw [h4]; decide)]
        try rfl
      · have h6 : bytesLess x.name z.name = true := h1 z hz
        rw [h3] at h6; exact h6
    · have h6 : ∀ z, z ∈ x :: l → bytesLess f z.name = true := fun z hz => by
        rcases List.mem_cons.1 hz with rfl | hz
        · exact h3
        · exact xJ h3 (h1 z hz)
      refine ⟨[], [], x :: l, rfl, ?_, nofun, h6, .inr ⟨rfl, ?_⟩⟩
      · unfold xP
        rw [List.takeWhile_cons, if_neg (by rw [h4]; decide)]
        try rfl
      · refine List.any_eq_false.2 fun z hz => ?_
        have h7 := h6 z hz
        simp only [decide_eq_true_eq]
        rintro rfl
        rw [xu] at h7; cases h7
def wa (l : List Fol) (f : qB) : Option Jou := (l.find? (fun s => decide (s.name = f))).map Fol.jou
def QP (l : List Fol) (f : qB) (j : Jou) : List Fol := l.map (fun s => if s.name = f then ⟨s.name, j⟩ else s)
def JY (l : List Fol) (f : qB) : List Fol := l.take (xP l f) ++ ⟨f, Zi⟩ :: l.drop (xP l f)
theorem zw {l : List Fol} {f : qB} : xr l f = true ↔ ∃ s, s ∈ l ∧ s.name = f := by
  unfold xr; rw [List.any_eq_true]; simp
theorem v6 {l : List Gra} {f : qB} : zD l f = true ↔ ∃ g, g ∈ l ∧ g.folder = f := by
  unfold zD; rw [List.any_eq_true]; simp
theorem qaQ {l : List Fol} {f : qB} : wa l f = none ↔ xr l f = false := by
  unfold wa xr
  rw [Option.map_eq_none_iff, List.find?_eq_none, List.any_eq_false]
theorem VM {l : List Fol} {f : qB} {j : Jou} (h : wa l f = some j) : ⟨f, j⟩ ∈ l ∧ xr l f = true := by
  unfold wa at h
  obtain ⟨s, h1, rfl⟩ := Option.map_eq_some_iff.1 h
  have h2 := List.find?_some h1
  have h3 : s.name = f := by simpa using h2
  subst h3
  exact ⟨List.mem_of_find?_eq_some h1, zw.2 ⟨s, List.mem_of_find?_eq_some h1, rfl⟩⟩
theorem Vx (l : List Fol) (f : qB) (j : Jou) : (QP l f j).map Fol.name = l.map Fol.name := by
  unfold QP
  rw [List.map_map]
  apply List.map_congr_left
  intro s _
  show (if s.name = f then (⟨s.name, j⟩ : Fol) else s).name = s.name
  split <;> rfl
theorem J0 {l : List Fol} : qr yE l = qr bytesLess (l.map Fol.name) := by
  induction l with
  | nil => rfl
  | cons x l ih =>
    cases l with
    | nil => rfl
    | cons y l =>
      rw [show qr yE (x :: y :: l) = (yE x y && qr yE (y :: l)) from rfl, ih]; rfl
theorem qak {l : List Fol} {f : qB} {j : Jou} : qr yE (QP l f j) = qr yE l := by rw [J0, Vx, ← J0]
theorem V6 {l : List Fol} {f : qB} : xr l f = decide (f ∈ l.map Fol.name) := by
  rw [Bool.eq_iff_iff, zw, decide_eq_true_iff, List.mem_map]
theorem qfk {l : List Fol} {f g : qB} {j : Jou} : xr (QP l f j) g = xr l g := by rw [V6, Vx, ← V6]
theorem VE {l : List Fol} {f : qB} {j : Jou} {s : Fol} (h : s ∈ QP l f j) : (s = ⟨f, j⟩ ∧ xr l f = true) ∨ (s ∈ l ∧ ¬ s.name = f) := by
  unfold QP at h
  obtain ⟨x, hx, rfl⟩ := List.mem_map.1 h
  by_cases he : x.name = f
  · rw [if_pos he, he]
    exact .inl ⟨rfl, zw.2 ⟨x, hx, he⟩⟩
  · rw [if_neg he]
    exact .inr ⟨hx, he⟩
theorem qf1 {l : List Fol} (h : qr yE l = true) {k : Nat} (hk : k < l.length) {f : qB} (hf : l[k].name = f) (j : Jou) : QP l f j = l.set k ⟨f, j⟩ := by
  apply List.ext_getElem
  · simp [QP]
  · intro i h1 h2
    have hi : i < l.length := by simpa [QP] using h1
    have e : (QP l f j)[i] = (if l[i].name = f then (⟨l[i].name, j⟩ : Fol) else l[i]) := by simp [QP]
    rw [List.getElem_set, e]
    by_cases hik : k = i
    · subst hik; rw [if_pos rfl, if_pos hf, hf]
    · rw [if_neg hik, if_neg]
      intro e
      have := (List.getElem_inj (h₀ := by simpa using hk) (h₁ := by simpa using hi) (Kb h) (i := k) (j := i)).1 (by rw [List.getElem_map, List.getElem_map, hf, e])
      exact hik this
theorem X3 (l : List Fol) (f : qB) : xP l f ≤ l.length := (List.takeWhile_sublist _).length_le
theorem wM {l : List Fol} {f : qB} {s : Fol} : s ∈ JY l f ↔ s = ⟨f, Zi⟩ ∨ s ∈ l := by
  unfold JY
  rw [List.mem_append, List.mem_cons]
  have : s ∈ l ↔ s ∈ l.take (xP l f) ∨ s ∈ l.drop (xP l f) := by rw [← List.mem_append, List.take_append_drop]
  rw [this]
  constructor
  · rintro (h | h | h)
    · exact .inr (.inl h)
    · exact .inl h
    · exact .inr (.inr h)
  · rintro (h | h | h)
    · exact .inr (.inl h)
    · exact .inl h
    · exact .inr (.inr h)
theorem Yo (l : List Fol) (f : qB) : (JY l f).length = l.length + 1 := by
  unfold JY
  have := X3 l f
  simp; omega
theorem Wl {l : List Fol} {f g : qB} : xr (JY l f) g = true ↔ g = f ∨ xr l g = true := by
  rw [zw, zw]
  constructor
  · rintro ⟨s, hs, rfl⟩
    rcases wM.1 hs with rfl | hs
    · exact .inl rfl
    · exact .inr ⟨s, hs, rfl⟩
  · rintro (rfl | ⟨s, hs, rfl⟩)
    · exact ⟨_, wM.2 (.inl rfl), rfl⟩
    · exact ⟨s, wM.2 (.inr hs), rfl⟩
theorem qao {l : List Fol} {f : qB} (h : qr yE l = true) (hf : xr l f = false) : qr yE (JY l f) = true := by
  have hp := JW.1 h
  obtain ⟨A, M, Z, e1, e2, e3, e4, e5⟩ := qeF f hp
  have hM : M = [] := by
    rcases e5 with ⟨x, rfl, hx⟩ | ⟨e5, _⟩
    · have : xr l f = true := zw.2 ⟨x, by rw [e1]; simp, hx⟩
      rw [this] at hf; cases hf
    · exact e5
  subst hM
  rw [List.nil_append] at e1
  have hi : JY l f = A ++ ⟨f, Zi⟩ :: Z := by
    unfold JY
    rw [e2, e1, List.take_left, List.drop_left]
  rw [hi, JW, List.pairwise_append]
  rw [e1, List.pairwise_append] at hp
  refine ⟨hp.1, List.pairwise_cons.2 ⟨fun z hz => e4 z hz, hp.2.1⟩, fun a ha b hb => ?_⟩
  rcases List.mem_cons.1 hb with rfl | hb
  · exact e3 a ha
  · exact hp.2.2 a ha b hb
def mineK (u : Upl) (who : qB) (number now : Int) : Nat := (yj (vS who number) (qN u.sess now)).toNat
def zC (u : Upl) (who : qB) (number now : Int) : Sess := ((qN u.sess now)[mineK u who number now]?).getD zeroSess
def QB (u : Upl) (who : qB) (size now : Int) : Upl × Int × Int := if yH u who size now = 0 then (Ye u who size now, u.next, 0) else (Js, 0, yH u who size now)
def qgr (u : Upl) (k : Nat) (s : Sess) (offset : Int) (text : qB) (now : Int) : Upl × Int × Int :=
  if Jw s offset text = 0 then ({ u with sess := (qN u.sess now).set k (YF s offset text (now + u.lasts)) }, ((YF s offset text (now + u.lasts)).text.length : Int), 0) else (Js, 0, Jw s offset text)
def Qz (u : Upl) (who : qB) (number offset : Int) (text : qB) (now : Int) : Upl × Int × Int :=
  if yb u who number now = 0 then qgr u (mineK u who number now) (zC u who number now) offset text now else (Js, 0, yb u who number now)
def Zm (u : Upl) (who : qB) (number now : Int) : Int × Int := if yb u who number now = 0 then (((zC u who number now).text.length : Int), 0) else (0, yb u who number now)
def zy (u : Upl) (who : qB) (number now : Int) : Upl × qB × Int :=
  if yb u who number now = 0 then (if (zC u who number now).text.length < (zC u who number now).size then (Js, [], 4) else (qfr u now (mineK u who number now), (zC u who number now).text, 0)) else (Js, [], yb u who number now)
def zo (l : List Gra) (f b w : qB) (r : Int) : List Gra × Int := if jO l f b w r = 0 then (wi (xz l f w r) f, yL (xz l f w r) f) else ([], jO l f b w r)
def ZA (h : Hub) (x : Upl × Int × Int) : Hub × Ans := if x.2.2 = 0 then ({ h with ups := x.1 }, ⟨0, x.2.1, QI⟩) else (h, QT x.2.2)
def Kl (h : Hub) (r : Rqt) (u : Upl) (l : List Chg) : Hub × Ans :=
  match wa h.fols r.folder with
  | none => (h, ZC)
  | some j => if (vl j r.key l).2.2 = 0 then ({ h with fols := QP h.fols r.folder (vl j r.key l).1, ups := u }, ⟨0, (vl j r.key l).2.1, QI⟩) else (h, QT (vl j r.key l).2.2)
def Jn (h : Hub) (r : Rqt) : Hub × Ans :=
  if j1 h.gras r.folder r.who = 0 then (if h.fols.length = 8 then (h, QT 2) else ({ h with fols := JY h.fols r.folder, gras := xz h.gras r.folder r.who 3 }, ZC)) else (h, QT (j1 h.gras r.folder r.who))
def ZQ (h : Hub) (r : Rqt) : Hub × Ans :=
  if jS h.gras r.folder r.who < 1 then (h, QT 9)
  else if (zo h.gras r.folder r.who r.name r.number).2 = 0 then ({ h with gras := (zo h.gras r.folder r.who r.name r.number).1 }, ZC) else (h, QT (zo h.gras r.folder r.who r.name r.number).2)
def ZO (h : Hub) (r : Rqt) : Hub × Ans :=
  if jS h.gras r.folder r.who < 1 then (h, QT 9) else
  match wa h.fols r.folder with
  | none => (h, ZC)
  | some j => if (XL j r.number 10).2 = 0 then (h, ⟨0, 0, (XL j r.number 10).1⟩) else (h, QT (XL j r.number 10).2)
def qeI (h : Hub) (r : Rqt) : Hub × Ans := if (Zm h.ups r.who r.number h.now).2 = 0 then (h, ⟨0, (Zm h.ups r.who r.number h.now).1, QI⟩) else (h, QT (Zm h.ups r.who r.number h.now).2)
def qdV (h : Hub) (r : Rqt) : Hub × Ans :=
  if (zy h.ups r.who r.number h.now).2.2 = 0 then Kl h r (zy h.ups r.who r.number h.now).1 [⟨2, r.name, [], (zy h.ups r.who r.number h.now).2.1, r.base⟩] else (h, QT (zy h.ups r.who r.number h.now).2.2)
def WF (h : Hub) (r : Rqt) : Hub × Ans := if jS h.gras r.folder r.who < 2 then (h, QT 9) else if r.kind = 7 then qdV h r else Kl h r h.ups r.chs
def zp (h : Hub) (r : Rqt) : Hub × Ans :=
  if ¬ (1 ≤ r.kind ∧ r.kind ≤ 8) then (h, QT 7)
  else if qo r.who = false then (h, QT 1)
  else if r.kind = 8 then Jn h r
  else if r.kind = 3 then ZQ h r
  else if r.kind = 2 then ZO h r
  else if r.kind = 4 then ZA h (QB h.ups r.who r.number h.now)
  else if r.kind = 5 then ZA h (Qz h.ups r.who r.number r.offset r.text h.now)
  else if r.kind = 6 then qeI h r
  else WF h r
end Go.Proofs.YtiljlcgmcmjcoaaGreatDoor
set_option linter.unusedSimpArgs false
set_option linter.unusedVariables false
namespace Go.Proofs.YtiljlcgmcmjcoaaGreatDoor
open Go.Ab Go.RowKit
def YY (l : List Sess) : AV := .sl false (l.map Sess.row)
def Fol.row (s : Fol) : List AV := [.v (str s.name), qq s.jou.base, .v (.int .i64 s.jou.first), Qx s.jou.coms]
def wO (l : List Fol) : AV := .sl false (l.map Fol.row)
def Hub.row (h : Hub) : List AV := [wO h.fols, jD h.gras, .sl false (h.ups.sess.map Sess.row), .v (.int .i64 h.ups.next), .v (.int .i64 h.ups.lasts), .v (.int .i64 h.ups.room), .v (.int .i64 h.now)]
def zB (h : Hub) : AV := .agg h.row
def Ans.row (a : Ans) : List AV := [.v (.int .i64 a.err), .v (.int .i64 a.num), .v (.bool a.page.reset), qq a.page.tree, Qx a.page.coms, .v (.int .i64 a.page.cur), .v (.bool a.page.more)]
def V2 (a : Ans) : AV := .agg a.row
structure Fol.small (s : Fol) : Prop where
  name : s.name.length ≤ 1000000000
  jou : JBig s.jou
structure FBig (l : List Fol) : Prop where
  each : ∀ s, s ∈ l → s.small
  len : l.length ≤ 1000000000
structure SBig (l : List Sess) : Prop where
  each : ∀ s, s ∈ l → s.small
  len : l.length ≤ 1000000000
structure HBig (h : Hub) : Prop where
  fols : FBig h.fols
  gras : GBig h.gras
  sess : SBig h.ups.sess
structure RBig (r : Rqt) : Prop where
  who : r.who.length ≤ 1000000000
  folder : r.folder.length ≤ 1000000000
  name : r.name.length ≤ 1000000000
  key : r.key.length ≤ 1000000000
  text : r.text.length ≤ 1000000000
  chs : CBig r.chs
theorem HBig.ups {h : Hub} (hb : HBig h) : UBig h.ups := ⟨fun s hs => Nat.le_trans (hb.sess.each s hs).1 (by decide), fun s hs => (hb.sess.each s hs).2, Nat.le_trans hb.sess.len (by decide)⟩
theorem jN {n : Nat} (h : n ≤ 1000000000) : n ≤ 140737488355328 := Nat.le_trans h (by decide)
theorem qge {n : Nat} {xs : List AV} (h : zx C.tab 1000000000 n 88 xs) : ∃ s : Gra, xs = s.row ∧ s.small := by
  cases n with
  | zero => exact h.elim
  | succ n =>
    obtain ⟨_, _, rfl, h0, _, _, rfl, h1, _, _, rfl, h2, rfl⟩ := (show k9 C.tab 0 _ = some _ → XV (zx C.tab 1000000000 n) [(0, 9), (1, 9), (2, 3)] xs from h) rfl
    obtain ⟨a0, rfl, l0⟩ := zu h0
    obtain ⟨a1, rfl, l1⟩ := zu h1
    obtain ⟨a2, rfl, _⟩ := vv h2
    exact ⟨⟨a0, a1, a2⟩, rfl, jN l0, jN l1⟩
theorem qdt {n : Nat} {xs : List AV} (h : zx C.tab 1000000000 n 23 xs) : ∃ t : List Gra, xs = [jD t] ∧ GBig t := by
  cases n with
  | zero => exact h.elim
  | succ n =>
    obtain ⟨rows, he, hb, hr⟩ := (show (3 : Nat) ≠ 0 → ∃ rows, xs = [AV.sl false rows] ∧ rows.length * 40 ≤ 1000000000 ∧ ∀ row, row ∈ rows → zx C.tab 1000000000 n 88 row from h) (by decide)
    obtain ⟨l, rfl, hl⟩ := kO (f := Gra.row) (ok := Gra.small) (fun row hrow => qge (hr row hrow))
    refine ⟨l, he, hl, ?_⟩
    simp at hb; omega
theorem qeG {n : Nat} {xs : List AV} (h : zx C.tab 1000000000 n 78 xs) : ∃ s : Sess, xs = s.row ∧ s.small := by
  cases n with
  | zero => exact h.elim
  | succ n =>
    obtain ⟨_, _, rfl, h0, _, _, rfl, h1, _, _, rfl, h2, _, _, rfl, h3, _, _, rfl, h4, rfl⟩ := (show k9 C.tab 0 _ = some _ → XV (zx C.tab 1000000000 n) [(0, 3), (1, 9), (2, 9), (3, 3), (4, 3)] xs from h) rfl
    obtain ⟨a0, rfl, _⟩ := vv h0
    obtain ⟨a1, rfl, l1⟩ := zu h1
    obtain ⟨a2, rfl, l2⟩ := zu h2
    obtain ⟨a3, rfl, _⟩ := vv h3
    obtain ⟨a4, rfl, _⟩ := vv h4
    exact ⟨⟨a0, a1, a2, a3, a4⟩, rfl, jN l1, jN l2⟩
theorem qds {n : Nat} {xs : List AV} (h : zx C.tab 1000000000 n 24 xs) : ∃ t, xs = [YY t] ∧ SBig t := by
  cases n with
  | zero => exact h.elim
  | succ n =>
    obtain ⟨rows, he, hb, hr⟩ := (show (5 : Nat) ≠ 0 → ∃ rows, xs = [AV.sl false rows] ∧ rows.length * 56 ≤ 1000000000 ∧ ∀ row, row ∈ rows → zx C.tab 1000000000 n 78 row from h) (by decide)
    obtain ⟨l, rfl, hl⟩ := kO (f := Sess.row) (ok := Sess.small) (fun row hrow => qeG (hr row hrow))
    refine ⟨l, he, hl, ?_⟩
    simp at hb; omega
theorem qf3 {n : Nat} {xs : List AV} (h : zx C.tab 1000000000 n 62 xs) : ∃ s : Fol, xs = s.row ∧ s.small := by
  cases n with
  | zero => exact h.elim
  | succ n =>
    obtain ⟨_, _, rfl, h0, _, _, rfl, h1, rfl⟩ := (show k9 C.tab 0 _ = some _ → XV (zx C.tab 1000000000 n) [(0, 9), (1, 60)] xs from h) rfl
    obtain ⟨a0, rfl, l0⟩ := zu h0
    obtain ⟨a1, rfl, l1⟩ := qgc h1
    exact ⟨⟨a0, a1⟩, rfl, l0, l1⟩
theorem qd9 {n : Nat} {xs : List AV} (h : zx C.tab 1000000000 n 22 xs) : ∃ t, xs = [wO t] ∧ FBig t := by
  cases n with
  | zero => exact h.elim
  | succ n =>
    obtain ⟨rows, he, hb, hr⟩ := (show (4 : Nat) ≠ 0 → ∃ rows, xs = [AV.sl false rows] ∧ rows.length * 72 ≤ 1000000000 ∧ ∀ row, row ∈ rows → zx C.tab 1000000000 n 62 row from h) (by decide)
    obtain ⟨l, rfl, hl⟩ := kO (f := Fol.row) (ok := Fol.small) (fun row hrow => qf3 (hr row hrow))
    refine ⟨l, he, hl, ?_⟩
    simp at hb; omega
theorem qgb {n : Nat} {xs : List AV} (h : zx C.tab 1000000000 n 26 xs) : ∃ u : Upl, xs = u.row ∧ SBig u.sess := by
  cases n with
  | zero => exact h.elim
  | succ n =>
    obtain ⟨_, _, rfl, h0, _, _, rfl, h1, _, _, rfl, h2, _, _, rfl, h3, rfl⟩ := (show k9 C.tab 0 _ = some _ → XV (zx C.tab 1000000000 n) [(0, 24), (1, 3), (2, 3), (3, 3)] xs from h) rfl
    obtain ⟨a0, rfl, l0⟩ := qds h0
    obtain ⟨a1, rfl, _⟩ := vv h1
    obtain ⟨a2, rfl, _⟩ := vv h2
    obtain ⟨a3, rfl, _⟩ := vv h3
    exact ⟨⟨a0, a1, a2, a3⟩, rfl, l0⟩
theorem qfN {n : Nat} {xs : List AV} (h : zx C.tab 1000000000 n 28 xs) : ∃ h : Hub, xs = h.row ∧ HBig h := by
  cases n with
  | zero => exact h.elim
  | succ n =>
    obtain ⟨_, _, rfl, h0, _, _, rfl, h1, _, _, rfl, h2, _, _, rfl, h3, rfl⟩ := (show k9 C.tab 0 _ = some _ → XV (zx C.tab 1000000000 n) [(0, 22), (1, 23), (2, 26), (6, 3)] xs from h) rfl
    obtain ⟨a0, rfl, l0⟩ := qd9 h0
    obtain ⟨a1, rfl, l1⟩ := qdt h1
    obtain ⟨a2, rfl, l2⟩ := qgb h2
    obtain ⟨a3, rfl, _⟩ := vv h3
    exact ⟨⟨a0, a1, a2, a3⟩, rfl, l0, l1, l2⟩
theorem qfw {y : AV} (h : qdd C.tab 1000000000 28 y) : ∃ c, y = .agg (Hub.row c) ∧ HBig c := by
  obtain ⟨n, xs, rfl, h2⟩ := (show ∃ n xs, y = .agg xs ∧ zx C.tab 1000000000 n 28 xs from h)
  obtain ⟨c, rfl, hc⟩ := qfN h2
  exact ⟨c, rfl, hc⟩
end Go.Proofs.YtiljlcgmcmjcoaaGreatDoor
set_option linter.unusedSimpArgs false
set_option linter.unnecessarySimpa false
set_option linter.unusedVariables false
namespace Go.Proofs.YtiljlcgmcmjcoaaGreatDoor
open Go.Op
theorem qbr : JRight Zi := y7.1 (by rfl)
theorem Zb {l : List Gra} {f w : qB} (h : ¬ jS l f w = 0) : zD l f = true := by
  unfold jS at h
  cases hg : l.find? (sameKey ⟨f, w, 0⟩) with
  | none => rw [hg] at h; exact absurd rfl h
  | some g =>
    have h1 := List.mem_of_find?_eq_some hg
    have h2 := xg.1 (List.find?_some hg)
    exact v6.2 ⟨g, h1, h2.1⟩
theorem HRight.has {h : Hub} (hr : HRight h) {f : qB} : xr h.fols f = zD h.gras f := by
  rw [Bool.eq_iff_iff]
  constructor
  · intro e
    obtain ⟨s, hs, rfl⟩ := zw.1 e
    exact hr.known s hs
  · intro e
    obtain ⟨g, hg, rfl⟩ := v6.1 e
    exact hr.told g hg
theorem Qv {j : Jou} (h : JRight j) (key : qB) (l : List Chg) : vl j key l = yO j key l := by
  unfold yO; rw [if_neg (by simp [y7.2 h])]
theorem Zx {j : Jou} (h : JRight j) {key : qB} {l : List Chg} (hz : (vl j key l).2.2 = 0) : JRight (vl j key l).1 := by
  rw [Qv h] at hz ⊢
  rcases J3 (j := j) (key := key) (l := l) with ⟨e, he, h1⟩ | ⟨_, _, ⟨c, _, h1⟩ | ⟨_, hR, h1⟩⟩
  · rw [h1] at hz; exact absurd hz he
  · rw [h1]; exact h
  · rw [h1]; exact hR
theorem wY {u : Upl} {who : qB} {number now : Int} (h : yb u who number now = 0) : jy u now = 0 ∧ qo who = true ∧ yj (vS who number) (qN u.sess now) = (mineK u who number now : Int) ∧ (qN u.sess now)[mineK u who number now]? = some (zC u who number now) ∧ vS who number (zC u who number now) = true := by
  unfold yb at h
  by_cases h1 : jy u now = 0
  case neg => rw [if_neg h1] at h; exact absurd h h1
  rw [if_pos h1] at h
  by_cases h2 : qo who = true
  case neg => rw [if_neg h2] at h; omega
  rw [if_pos h2] at h
  by_cases h3 : yj (vS who number) (qN u.sess now) < 0
  · rw [if_pos h3] at h; omega
  rcases xf (vS who number) (qN u.sess now) with ⟨e, _⟩ | ⟨k, hk, e, _, e3⟩
  · omega
  have hK : mineK u who number now = k := by unfold mineK; rw [e]; rfl
  have hS : zC u who number now = (qN u.sess now)[k] := by unfold zC; rw [hK, List.getElem?_eq_getElem hk]; rfl
  rw [hK, hS]
  exact ⟨h1, h2, e, List.getElem?_eq_getElem hk, e3⟩
theorem Yt {α β : Type} {f : α → β} {L : List α} {k : Nat} {s s' : α} (h : L[k]? = some s) (hf : f s' = f s) : (L.set k s').map f = L.map f := by
  obtain ⟨hk, rfl⟩ := List.getElem?_eq_some_iff.1 h
  apply List.ext_getElem
  · simp
  · intro i h1 h2
    rw [List.getElem_map, List.getElem_map, List.getElem_set]
    by_cases hi : k = i
    · subst hi; rw [if_pos rfl, hf]
    · rw [if_neg hi]
theorem qdh (s : Sess) (offset : Int) (text : qB) (till : Int) : (YF s offset text till).number = s.number ∧ (YF s offset text till).who = s.who ∧ (YF s offset text till).size = s.size := by
  unfold YF; split <;> exact ⟨rfl, rfl, rfl⟩
theorem Xq {u : Upl} {now : Int} (h : jy u now = 0) : yq u = 0 ∧ qz now 0 1099511627776 = true := by
  unfold jy at h
  by_cases h1 : yq u = 0
  · rw [if_pos h1] at h
    by_cases h2 : qz now 0 1099511627776 = true
    · exact ⟨h1, h2⟩
    · rw [if_neg h2] at h; omega
  · rw [if_neg h1] at h; exact absurd h h1
theorem zI {n a b : Int} : qz n a b = true ↔ a ≤ n ∧ n ≤ b := by unfold qz; simp
theorem Zp {u : Upl} {now : Int} (hb : jy u now = 0) {k : Nat} {s : Sess} (hs : (qN u.sess now)[k]? = some s) {offset : Int} {text : qB} (he : Jw s offset text = 0) : yq { u with sess := (qN u.sess now).set k (YF s offset text (now + u.lasts)) } = 0 := by
  obtain ⟨h1, h2⟩ := Xq hb
  obtain ⟨a, b, c, d, e⟩ := zO (Q5 now h1)
  obtain ⟨w1, w2⟩ := zI.1 h2
  have hh : vC u = true := a
  unfold vC at hh
  simp only [Bool.and_eq_true, zI] at hh
  obtain ⟨n1, n2, n3⟩ := qdh s offset text (now + u.lasts)
  have hm : s ∈ qN u.sess now := List.mem_of_getElem? hs
  have hnum := Yt (f := fun x : Sess => x.number) hs n1
  have hof : ∀ who, jU ((qN u.sess now).set k (YF s offset text (now + u.lasts))) who = jU (qN u.sess now) who := fun who => by
    unfold jU
    rw [Yt (f := fun x : Sess => if x.who = who then x.size else 0) hs (by simp only [n2, n3])]
  have hse : j7 u.next (YF s offset text (now + u.lasts)) = 0 := by
    have hc : j7 u.next s = 0 := c s hm
    show j7 u.next _ = 0
    unfold YF
    by_cases hg : zH s.text offset text = true
    · rw [if_pos hg]; exact hc
    · rw [if_neg hg]
      unfold Jw at he
      rw [if_neg hg] at he
      have hlen : ¬ s.size < s.text.length + text.length := by
        intro hx
        by_cases ho : offset = s.text.length
        · rw [if_pos ho, if_pos hx] at he; omega
        · rw [if_neg ho] at he; omega
      unfold j7 at hc ⊢
      have hw3 : qz (now + u.lasts) 0 2199023255552 = true := zI.2 (by omega)
      simp only [hw3, Bool.and_true]
      by_cases h7 : (qz s.number 1 (u.next - 1) && qz s.size 0 300 && qz s.till 0 2199023255552) = true
      · rw [if_pos h7] at hc
        simp only [Bool.and_eq_true] at h7
        rw [if_pos (by simp [h7])]
        by_cases h8 : qo s.who = true
        · rw [if_pos h8, if_neg (by simp only [List.length_append]; push_cast; omega)]
        · rw [if_neg h8] at hc; omega
      · rw [if_neg h7] at hc; omega
  refine YJ a (by show (List.set _ _ _).length ≤ 20; rw [List.length_set]; exact b) (fun x hx => ?_) ?_ (fun x hx => ?_)
  · rcases List.mem_or_eq_of_mem_set hx with h | rfl
    · exact c x h
    · exact hse
  · have := (List.pairwise_map (f := fun x : Sess => x.number) (R := fun a b : Int => a < b)).2 d
    show List.Pairwise (fun a b : Sess => a.number < b.number) ((qN u.sess now).set k _)
    rw [← List.pairwise_map (f := fun x : Sess => x.number) (R := fun a b : Int => a < b), hnum]
    exact this
  · show jU ((qN u.sess now).set k _) x.who ≤ u.room
    rw [hof]
    rcases List.mem_or_eq_of_mem_set hx with h | rfl
    · exact e x h
    · rw [n2]; exact e s hm
theorem qbE {l l' : List Sess} (who : qB) (h : l'.Sublist l) (h0 : ∀ s, s ∈ l → 0 ≤ s.size) : jU l' who ≤ jU l who := by
  induction h with
  | slnil => exact Int.le_refl _
  | cons a _ ih =>
    rw [zZ]
    have := ih fun s hs => h0 s (List.mem_cons_of_mem _ hs)
    have := h0 a (List.mem_cons_self ..)
    split <;> omega
  | cons_cons a _ ih =>
    rw [zZ, zZ]
    have := ih fun s hs => h0 s (List.mem_cons_of_mem _ hs)
    omega
theorem Zk {u : Upl} {now : Int} (hb : jy u now = 0) (k : Nat) : yq (qfr u now k) = 0 := by
  obtain ⟨h1, h2⟩ := Xq hb
  obtain ⟨a, b, c, d, e⟩ := zO (Q5 now h1)
  have hsub : ((qN u.sess now).eraseIdx k).Sublist (qN u.sess now) := List.eraseIdx_sublist _ _
  refine YJ a (Nat.le_trans hsub.length_le b) (fun x hx => c x (hsub.subset hx)) (List.Pairwise.sublist hsub d) (fun x hx => ?_)
  have := qbE x.who hsub fun s hs => (xZ (c s hs)).1
  have := e x (hsub.subset hx)
  show jU ((qN u.sess now).eraseIdx k) x.who ≤ u.room
  have h3 : (JC u now).room = u.room := rfl
  have h4 : (JC u now).sess = qN u.sess now := rfl
  rw [h3, h4] at this
  omega
structure Serves (h : Hub) (x : Hub × Ans) : Prop where
  right : HRight x.1
  same : ¬ x.2.err = 0 → x = (h, QT x.2.err)
theorem yR {h : Hub} (hr : HRight h) (e : Int) : Serves h (h, QT e) := ⟨hr, fun _ => rfl⟩
theorem v2 {h h' : Hub} {a : Ans} (hr : HRight h') (ha : a.err = 0) : Serves h (h', a) := ⟨hr, fun e => absurd ha e⟩
theorem HRight.setUps {h : Hub} (hr : HRight h) {u : Upl} (hu : yq u = 0) : HRight { h with ups := u } := ⟨hr.now, hr.len, hr.each, hr.rise, hr.gra, hr.told, hr.known, hu⟩
theorem Vh {h : Hub} (hr : HRight h) {x : Upl × Int × Int} (hx : x.2.2 = 0 → yq x.1 = 0) : Serves h (ZA h x) := by
  unfold ZA
  by_cases h0 : x.2.2 = 0
  · rw [if_pos h0]; exact v2 (hr.setUps (hx h0)) rfl
  · rw [if_neg h0]; exact yR hr _
theorem qbL {u : Upl} {who : qB} {size now : Int} (h : (QB u who size now).2.2 = 0) : yq (QB u who size now).1 = 0 := by
  unfold QB at h ⊢
  by_cases h0 : yH u who size now = 0
  · rw [if_pos h0]; exact WH h0
  · rw [if_neg h0] at h; exact absurd h h0
theorem qaY {u : Upl} {who : qB} {number offset : Int} {text : qB} {now : Int} (h : (Qz u who number offset text now).2.2 = 0) : yq (Qz u who number offset text now).1 = 0 := by
  unfold Qz at h ⊢
  by_cases h0 : yb u who number now = 0
  · rw [if_pos h0] at h ⊢
    obtain ⟨m1, m2, m3, m4, m5⟩ := wY h0
    unfold qgr at h ⊢
    by_cases h1 : Jw (zC u who number now) offset text = 0
    · rw [if_pos h1]; exact Zp m1 m4 h1
    · rw [if_neg h1] at h; exact absurd h h1
  · rw [if_neg h0] at h; exact absurd h h0
theorem qbh {u : Upl} {who : qB} {number now : Int} (h : (zy u who number now).2.2 = 0) : yq (zy u who number now).1 = 0 := by
  unfold zy at h ⊢
  by_cases h0 : yb u who number now = 0
  · rw [if_pos h0] at h ⊢
    by_cases h1 : (zC u who number now).text.length < (zC u who number now).size
    · rw [if_pos h1] at h; exact absurd h (by decide)
    · rw [if_neg h1]; exact Zk (wY h0).1 _
  · rw [if_neg h0] at h; exact absurd h h0
theorem Vj {h : Hub} (hr : HRight h) {r : Rqt} {u : Upl} {l : List Chg} (hu : yq u = 0) : Serves h (Kl h r u l) := by
  unfold Kl
  cases hj : wa h.fols r.folder with
  | none => exact v2 hr rfl
  | some j =>
    obtain ⟨hm, hh⟩ := VM hj
    have hJ : JRight j := (hr.each _ hm).2
    dsimp only
    by_cases h0 : (vl j r.key l).2.2 = 0
    · rw [if_pos h0]
      refine v2 ⟨hr.now, by show (QP _ _ _).length ≤ 8; unfold QP; rw [List.length_map]; exact hr.len, fun s hs => ?_, by rw [qak]; exact hr.rise, hr.gra, fun g hg => by show xr (QP _ _ _) _ = true; rw [qfk]; exact hr.told g hg, fun s hs => ?_, hu⟩ rfl
      · rcases VE hs with ⟨rfl, _⟩ | ⟨hs, _⟩
        · exact ⟨(hr.each _ hm).1, Zx hJ h0⟩
        · exact hr.each s hs
      · rcases VE hs with ⟨rfl, _⟩ | ⟨hs, _⟩
        · exact hr.known ⟨r.folder, j⟩ hm
        · exact hr.known s hs
    · rw [if_neg h0]; exact yR hr _
theorem qbS {h : Hub} (hr : HRight h) (r : Rqt) : Serves h (qdV h r) := by
  unfold qdV
  by_cases h0 : (zy h.ups r.who r.number h.now).2.2 = 0
  · rw [if_pos h0]; exact Vj hr (qbh h0)
  · rw [if_neg h0]; exact yR hr _
theorem Wp {h : Hub} (hr : HRight h) (r : Rqt) : Serves h (ZO h r) := by
  unfold ZO
  split
  · exact yR hr _
  · split
    · exact v2 hr rfl
    · split
      · exact v2 hr rfl
      · exact yR hr _
theorem qdJ {l : List Gra} {f w : qB} {r : Int} (hs : qr jv l = true) (hr : ¬ r = 0) : ∃ g, g ∈ xz l f w r ∧ g.folder = f ∧ g.right = r := by
  have h1 := qbJ (l := l) (f := f) (w := w) (r := r) hs
  unfold jS at h1
  cases hg : (xz l f w r).find? (sameKey ⟨f, w, 0⟩) with
  | none => rw [hg] at h1; exact absurd h1.symm hr
  | some g =>
    rw [hg] at h1
    exact ⟨g, List.mem_of_find?_eq_some hg, (xg.1 (List.find?_some hg)).1, h1⟩
theorem ZY {l : List Gra} {f w g : qB} {r : Int} (hs : qr jv l = true) (h : zD l g = true) (hg : ¬ g = f) : zD (xz l f w r) g = true := by
  obtain ⟨x, hx, rfl⟩ := v6.1 h
  exact v6.2 ⟨x, Wh hs hx (by rw [Bool.eq_false_iff]; intro e; exact hg (xg.1 e).1), rfl⟩
theorem XJ {l : List Gra} {f w : qB} (h : j1 l f w = 0) : jE l = 0 ∧ qo f = true ∧ qo w = true ∧ zD l f = false ∧ ¬ l.length = 60 := by
  unfold j1 at h
  by_cases h1 : jE l = 0
  case neg => rw [if_neg h1] at h; exact absurd h h1
  rw [if_pos h1] at h
  by_cases h2 : (qo f && qo w) = true
  case neg => rw [if_neg h2] at h; omega
  rw [if_pos h2] at h
  by_cases h3 : l.any (xI f) = true
  · rw [if_pos h3] at h; omega
  rw [if_neg h3] at h
  by_cases h4 : l.length = 60
  · rw [if_pos h4] at h; omega
  rw [Bool.and_eq_true] at h2
  refine ⟨h1, h2.1, h2.2, ?_, h4⟩
  have : l.any (xI f) = false := by simpa using h3
  exact this
theorem K8 {h : Hub} (hr : HRight h) {r : Rqt} (h0 : j1 h.gras r.folder r.who = 0) (h8 : ¬ h.fols.length = 8) : HRight { h with fols := JY h.fols r.folder, gras := xz h.gras r.folder r.who 3 } := by
  obtain ⟨g1, g2, g3, g4, g5⟩ := XJ h0
  obtain ⟨a1, a2, a3, a4⟩ := xF g1
  have hf : xr h.fols r.folder = false := by rw [hr.has]; exact g4
  obtain ⟨x, hx, hxf, hxr⟩ := qdJ (f := r.folder) (w := r.who) (r := 3) a3 (by decide)
  have hlen := hr.len
  refine ⟨hr.now, by show (JY _ _).length ≤ 8; rw [Yo]; omega, fun s hs => ?_, qao hr.rise hf, Vd g1 g2 g3 (by decide) (List.any_eq_true.2 ⟨x, hx, Xg.2 ⟨hxf, hxr⟩⟩) ?_, fun g hg => ?_, fun s hs => ?_, hr.ups⟩
  · rcases wM.1 hs with rfl | hs
    · exact ⟨g2, qbr⟩
    · exact hr.each s hs
  · have := Vz (l := h.gras) (f := r.folder) (w := r.who) (r := 3); omega
  · rcases QR a3 hg with hg | ⟨_, rfl⟩
    · exact Wl.2 (.inr (hr.told g hg))
    · exact Wl.2 (.inl rfl)
  · rcases wM.1 hs with rfl | hs
    · exact v6.2 ⟨x, hx, hxf⟩
    · refine ZY a3 (hr.known s hs) fun e => ?_
      rw [zw.2 ⟨s, hs, e⟩] at hf; cases hf
theorem Zy {h : Hub} (hr : HRight h) (r : Rqt) : Serves h (Jn h r) := by
  unfold Jn
  by_cases h0 : j1 h.gras r.folder r.who = 0
  · rw [if_pos h0]
    by_cases h8 : h.fols.length = 8
    · rw [if_pos h8]; exact yR hr _
    · rw [if_neg h8]; exact v2 (K8 hr h0 h8) rfl
  · rw [if_neg h0]; exact yR hr _
theorem qdA {l : List Gra} {f b w : qB} {r : Int} (h : jO l f b w r = 0) : jE l = 0 ∧ qo f = true ∧ qo b = true ∧ qo w = true ∧ 0 ≤ r ∧ r ≤ 3 := by
  unfold jO at h
  by_cases h1 : jE l = 0
  case neg => rw [if_neg h1] at h; exact absurd h h1
  rw [if_pos h1] at h
  by_cases h2 : (qo f && (qo b && qo w)) = true
  case neg => rw [if_neg h2] at h; omega
  rw [if_pos h2] at h
  by_cases h3 : qz r 0 3 = true
  case neg => rw [if_neg h3] at h; omega
  simp only [Bool.and_eq_true] at h2
  obtain ⟨w1, w2⟩ := zI.1 h3
  exact ⟨h1, h2.1, h2.2.1, h2.2.2, w1, w2⟩
theorem Z0 {L : List Gra} {f : qB} (h : yL L f = 0) : L.any (kn f) = true ∧ L.length ≤ 60 ∧ wi L f = L := by
  have hl : wi L f = L := by unfold wi; rw [if_pos h]
  unfold yL at h
  by_cases h1 : L.any (kn f) = true
  · rw [if_pos h1] at h
    by_cases h2 : 60 < L.length
    · rw [if_pos h2] at h; omega
    · exact ⟨h1, by omega, hl⟩
  · rw [if_neg h1] at h; omega
theorem ZU {l : List Gra} {f b w : qB} {r : Int} (h : (zo l f b w r).2 = 0) : jO l f b w r = 0 ∧ yL (xz l f w r) f = 0 ∧ (zo l f b w r).1 = xz l f w r := by
  unfold zo at h ⊢
  by_cases h1 : jO l f b w r = 0
  · rw [if_pos h1] at h ⊢
    exact ⟨h1, h, (Z0 h).2.2⟩
  · rw [if_neg h1] at h; exact absurd h h1
theorem qbi {h : Hub} (hr : HRight h) {r : Rqt} (h1 : ¬ jS h.gras r.folder r.who < 1) (h0 : (zo h.gras r.folder r.who r.name r.number).2 = 0) : HRight { h with gras := (zo h.gras r.folder r.who r.name r.number).1 } := by
  obtain ⟨e1, e2, e3⟩ := ZU h0
  obtain ⟨g1, g2, g3, g4, g5, g6⟩ := qdA e1
  obtain ⟨k1, k2, _⟩ := Z0 e2
  obtain ⟨a1, a2, a3, a4⟩ := xF g1
  rw [e3]
  have hf : xr h.fols r.folder = true := by rw [hr.has]; exact Zb (w := r.who) (by omega)
  refine ⟨hr.now, hr.len, hr.each, hr.rise, Vd g1 g2 g4 ⟨g5, g6⟩ k1 k2, fun g hg => ?_, fun s hs => ?_, hr.ups⟩
  · rcases QR a3 hg with hg | ⟨_, rfl⟩
    · exact hr.told g hg
    · exact hf
  · by_cases he : s.name = r.folder
    · obtain ⟨x, hx, hxo⟩ := List.any_eq_true.1 k1
      exact v6.2 ⟨x, hx, by rw [he]; exact (Xg.1 hxo).1⟩
    · exact ZY a3 (hr.known s hs) he
theorem qaa {h : Hub} (hr : HRight h) (r : Rqt) : Serves h (ZQ h r) := by
  unfold ZQ
  by_cases h1 : jS h.gras r.folder r.who < 1
  · rw [if_pos h1]; exact yR hr _
  · rw [if_neg h1]
    by_cases h0 : (zo h.gras r.folder r.who r.name r.number).2 = 0
    · rw [if_pos h0]; exact v2 (qbi hr h1 h0) rfl
    · rw [if_neg h0]; exact yR hr _
theorem XA {h : Hub} (hr : HRight h) (r : Rqt) : Serves h (zp h r) := by
  unfold zp
  split
  · exact yR hr _
  split
  · exact yR hr _
  split
  · exact Zy hr r
  split
  · exact qaa hr r
  split
  · exact Wp hr r
  split
  · exact Vh hr qbL
  split
  · exact Vh hr qaY
  split
  · unfold qeI
    split
    · exact v2 hr rfl
    · exact yR hr _
  · unfold WF
    split
    · exact yR hr _
    split
    · exact qbS hr r
    · exact Vj hr hr.ups
end Go.Proofs.YtiljlcgmcmjcoaaGreatDoor
set_option linter.unusedSimpArgs false
set_option linter.unnecessarySimpa false
set_option linter.unusedVariables false
namespace Go.Proofs.YtiljlcgmcmjcoaaGreatDoor
open Go.Op
structure SameView (h x : Hub) (f : qB) : Prop where
  jou : wa x.fols f = wa h.fols f
  right : ∀ w, jS x.gras f w = jS h.gras f w
def qgl (h : Hub) (f : qB) : List Ent × Int := match wa h.fols f with | none => ([], 5) | some j => (vf j, 0)
def qcr (h : Hub) (f : qB) : List Ent × Int := if vj h = 0 then qgl h f else ([], vj h)
end Go.Proofs.YtiljlcgmcmjcoaaGreatDoor
set_option linter.unusedSimpArgs false
set_option linter.unnecessarySimpa false
set_option linter.unusedVariables false
set_option maxHeartbeats 1000000
namespace Go.Proofs.YtiljlcgmcmjcoaaGreatDoor
open Go.Ab Go.RowKit
open Go.Op (bytesLess)
set_option maxRecDepth 10000
attribute [local irreducible] Awp jV q9 qJ Red qy Go.Ab.Fin ql Rz yQ qA qG ResOk jC q6 jH qT
def atF (p : qB) (x : Fol) : Bool := decide (x.name = p)
theorem Qd {t : List Fol} (h : qr yE t = true) : ∀ (j k : Nat) (hj : j < t.length) (hk : k < t.length), j < k → bytesLess t[j].name t[k].name = true := by
  intro j k hj hk hjk
  induction k with
  | zero => omega
  | succ k ih =>
    have h1 : bytesLess t[k].name t[k + 1].name = true := jT.1 h k hk
    by_cases e : j = k
    · subst e; exact h1
    · exact xJ (ih (by omega) (by omega)) h1
theorem KL {p : qB} : ∀ {t : List Fol} {k : Nat}, k ≤ t.length → (∀ (j : Nat) (h : j < t.length), j < k → bytesLess t[j].name p = true) → (∀ (h : k < t.length), bytesLess t[k].name p = false) → xP t p = k
  | [], k, hk, _, _ => by simp at hk; simp [xP, hk]
  | x :: l, 0, hk, _, h2 => by
    have := h2 (by simp)
    simp only [List.getElem_cons_zero] at this
    simp [xP, List.takeWhile_cons, this]
  | x :: l, k + 1, hk, h1, h2 => by
    have hx : bytesLess x.name p = true := h1 0 (by simp) (by omega)
    have := KL (t := l) (k := k) (by simpa using hk) (fun j h hj => h1 (j + 1) (by simpa using h) (by omega)) (fun h => h2 (by simpa using h))
    simp only [xP] at this
    simp [xP, List.takeWhile_cons, hx, this]
theorem qcm {t : List Fol} {p : qB} (hs : qr yE t = true) {k : Nat} (hk : k < t.length) (he : t[k].name = p) : xP t p = k := by
  refine KL (by omega) (fun j hj hjk => ?_) (fun _ => ?_)
  · rw [← he]; exact Qd hs j k hj hk hjk
  · rw [← he]; exact xu _
theorem WD {t : List Fol} {p : qB} (hs : qr yE t = true) : xr t p = (match t[xP t p]? with | some x => decide (vi x.name p = 0) | none => false) := by
  rcases xf (atF p) t with ⟨_, h2⟩ | ⟨k, hk, _, _, h3⟩
  · have : xr t p = false := List.any_eq_false.2 (fun x hx => by have := h2 x hx; simpa [atF] using this)
    rw [this]
    split
    · rename_i x hx
      have hm := List.mem_of_getElem? hx
      have := h2 x hm
      rw [eq_comm, decide_eq_false_iff_not, y1]
      simpa [atF] using this
    · rfl
  · have he : t[k].name = p := by simpa [atF] using h3
    have : xr t p = true := List.any_eq_true.2 ⟨t[k], List.getElem_mem _, h3⟩
    rw [this, qcm hs hk he, List.getElem?_eq_getElem hk]
    simp [he, XF]
theorem qcu {t : List Fol} {p : qB} (hs : qr yE t = true) (h : xr t p = true) : ∃ hk : xP t p < t.length, t[xP t p].name = p ∧ t.find? (atF p) = some t[xP t p] ∧ yj (atF p) t = xP t p := by
  obtain ⟨x, hx, hk⟩ := List.any_eq_true.1 h
  obtain ⟨k, hkl, rfl⟩ := List.getElem_of_mem hx
  have he : t[k].name = p := by simpa [atF] using hk
  have hp := qcm hs hkl he
  have hbef : ∀ j (hj : j < k), atF p (t[j]'(by omega)) = false := fun j hj => by
    have h1 := Qd hs j k (by omega) hkl hj
    have : ¬ t[j].name = p := fun e => by rw [e, he, xu] at h1; cases h1
    simp [atF, this]
  refine ⟨by omega, by simp only [hp]; exact he, ?_, ?_⟩
  · simp only [hp]
    rw [List.find?_eq_some_iff_getElem]
    exact ⟨hk, k, hkl, rfl, fun j hj => by rw [hbef j hj]; rfl⟩
  · rw [hp]
    refine vJ hkl (fun x hx => ?_) hk
    obtain ⟨j, hj, rfl⟩ := List.getElem_of_mem hx
    rw [List.getElem_take]
    exact hbef j (by simp at hj; omega)
theorem KC (e : Fol) (p : qB) : jY C.P 99 [.agg e.row, .v (str p)] (.v (.int .i64 (vi e.name p))) := by
  refine qa Tryz.func99 rfl _ Tryz.ntmps99 (Nat.le_of_ble_eq_true rfl) _ Tryz.results99 0 rfl rfl ?_
  repeat' (first | refine qe ?_ | (first | refine xsF Tryz.func100 (YZ ..) ?_) | ((first | refine xsC ?_ ?_); all_goals (intro hc; have hp := hc; try simp at hp; try (exfalso; omega))) | refine qw ?_ ?_)
  all_goals (apply qD; rfl; rfl)
theorem qcU (l : List Fol) (p : qB) (hl : l.length ≤ 1000000000) (hs : qr yE l = true) :
    jY C.P 98 [wO l, .v (str p), .clo (.func 99) [] []] (.tup [.v (.int .i64 (xP l p)), .v (.bool (xr l p))]) := by
  refine qa Tryz.func98 rfl _ Tryz.ntmps98 (Nat.le_of_ble_eq_true rfl) _ Tryz.results98 0 rfl rfl ?_
  repeat' (first | refine qe ?_ | fail | ((first | refine qc ?_ ?_ | refine qb ?_ ?_ | refine xsC ?_ ?_); all_goals (intro hc; have hp := hc; try simp at hp; try (exfalso; omega))) | refine qw ?_ ?_)
  (refine Awp.red (qh (ts := [(0, wO l), (1, .v (str p)), (2, .clo (.func 99) [] []), (8, .v (.int .i64 l.length)), (9, .v (.int .i64 ((0 : Nat) : Int))), (10, .v (.int .i64 l.length))]) ?_) ?_; ((repeat (first | exact qd | refine qi ?_ | refine qR ?_ ?_))))
  all_goals try (rw [List.length_map]; done)
  refine qu (fun n σ => ∃ lo hi : Nat, lo ≤ hi ∧ hi ≤ l.length ∧ n = hi - lo ∧ (∀ (k : Nat) (h : k < l.length), k < lo → Op.bytesLess l[k].name p = true) ∧ (∀ (k : Nat) (h : k < l.length), hi ≤ k → Op.bytesLess l[k].name p = false) ∧ σ = ⟨[(0, wO l), (1, .v (str p)), (2, .clo (.func 99) [] []), (8, .v (.int .i64 l.length)), (9, .v (.int .i64 ((lo : Nat) : Int))), (10, .v (.int .i64 ((hi : Nat) : Int)))], [], C.nh⟩) l.length ⟨0, l.length, by omega, Nat.le_refl _, rfl, fun _ _ h => absurd h (by omega), fun _ _ h => absurd h (by omega), rfl⟩ ?_
  rintro n σ ⟨lo, hi, hle, hhi, rfl, h1, h2, rfl⟩
  by_cases hlt : lo < hi
  · obtain ⟨m, hm⟩ : ∃ m : Nat, m = (lo + hi) / 2 := ⟨_, rfl⟩
    have hmi : ((lo : Int) + (hi : Int)) / 2 = (m : Int) := by omega
    have hml : m < l.length := by omega
    have hr := qF (f := Fol.row) hml
    have hr2 : (l.map Fol.row)[(((lo : Int) + (hi : Int)) / 2).toNat]? = some l[m].row := by rw [hmi]; exact hr
    repeat' (first | refine qe ?_ | (first | (apply qj; first | (apply Y5; rfl; rfl; rfl; rfl; rfl; omega; omega; exact nle rfl) | (apply Y6; rfl; rfl; rfl; rfl; rfl; omega; omega; exact nle rfl)) | (apply qj; apply KQ; (case hx => rfl); (case hy => rfl); (case hk => decide); (case hN => exact nle rfl)) | (refine vM Tryz.func99 (KC ..) ?_)) | ((first | refine qc ?_ ?_ | refine qb ?_ ?_ | refine xsC ?_ ?_); all_goals (intro hc; have hp := hc; try simp at hp; try (exfalso; omega))) | refine qw ?_ ?_)
    all_goals try (exfalso; omega)
    · have hmg : Op.bytesLess l[m].name p = true := (zN _ _).1 hp
      refine ⟨hi - (m + 1), _, by omega, qh (ts := [(0, wO l), (1, .v (str p)), (2, .clo (.func 99) [] []), (8, .v (.int .i64 l.length)), (9, .v (.int .i64 ((m + 1 : Nat) : Int))), (10, .v (.int .i64 ((hi : Nat) : Int)))]) ?_, m + 1, hi, by omega, hhi, rfl, fun k h hk => ?_, h2, rfl⟩
      · (repeat (first | exact qd | refine qi ?_ | refine qR ?_ ?_))
        all_goals (rw [hmi]; rfl)
      · by_cases e : k = m
        · subst e; exact hmg
        · exact xJ (Qd hs k m h hml (by omega)) hmg
    · have hmg : Op.bytesLess l[m].name p = false := (by
        cases h : Op.bytesLess l[m].name p
        · rfl
        · have := (zN _ _).2 h; omega)
      refine ⟨m - lo, _, by omega, qh (ts := [(0, wO l), (1, .v (str p)), (2, .clo (.func 99) [] []), (8, .v (.int .i64 l.length)), (9, .v (.int .i64 ((lo : Nat) : Int))), (10, .v (.int .i64 ((m : Nat) : Int)))]) ?_, lo, m, by omega, by omega, rfl, h1, fun k h hk => ?_, rfl⟩
      · (repeat (first | exact qd | refine qi ?_ | refine qR ?_ ?_))
        all_goals (rw [hmi])
      · by_cases e : k = m
        · subst e; exact hmg
        · cases hkg : Op.bytesLess l[k].name p
          · rfl
          · rw [xJ (Qd hs m k hml h (by omega)) hkg] at hmg; cases hmg
  obtain rfl : lo = hi := by omega
  have hpos : xP l p = lo := KL hhi h1 (fun h => h2 lo h (by omega))
  by_cases hin : lo < l.length
  · have hr := qF (f := Fol.row) hin
    have hhit : xr l p = decide (vi l[lo].name p = 0) := by
      rw [WD hs, hpos, List.getElem?_eq_getElem hin]
    repeat' (first | refine qe ?_ | (first | (refine vM Tryz.func99 (KC ..) ?_)) | ((first | refine qc ?_ ?_ | refine qb ?_ ?_ | refine xsC ?_ ?_); all_goals (intro hc; have hp := hc; try simp at hp; try (exfalso; omega))) | refine qw ?_ ?_)
    all_goals try (exfalso; omega)
    rw [hpos, hhit]
    (exact yv (rs := [.tmp 6, .tmp 7]))
  · have hhit : xr l p = false := by
      rw [WD hs, hpos, List.getElem?_eq_none (by omega)]
    repeat' (first | refine qe ?_ | (first | (refine vM Tryz.func99 (KC ..) ?_)) | ((first | refine qc ?_ ?_ | refine qb ?_ ?_ | refine xsC ?_ ?_); all_goals (intro hc; have hp := hc; try simp at hp; try (exfalso; omega))) | refine qw ?_ ?_)
    all_goals try (exfalso; omega)
    rw [hpos, hhit]
    (exact yv (rs := [.tmp 6, .tmp 7]))
theorem Yy (h : Hub) (p : qB) (hl : h.fols.length ≤ 1000000000) (hs : qr yE h.fols = true) :
    jY C.P 58 [zB h, .v (str p)] (.tup [.v (.int .i64 (xP h.fols p)), .v (.bool (xr h.fols p))]) := by
  have hse := qcU h.fols p hl hs
  refine qa Tryz.func58 rfl _ Tryz.ntmps58 (Nat.le_of_ble_eq_true rfl) _ Tryz.results58 0 rfl rfl ?_
  repeat' (first | refine qe ?_ | (first | refine xsQ Tryz.func98 (hse ..) ?_) | ((first | refine xsC ?_ ?_); all_goals (intro hc; have hp := hc; try simp at hp; try (exfalso; omega))) | refine qw ?_ ?_)
  (exact yv (rs := [.tmp 4, .tmp 5]))
theorem qc8 {h : Hub} (hs : qr yE h.fols = true) (ht : ∀ g, g ∈ h.gras → xr h.fols g.folder = true) : decide ((J6 h.gras).length = h.fols.length) = vu h := by
  have hn := Kb hs
  have hsub : h.gras.map (·.folder) ⊆ h.fols.map Fol.name := by
    intro s hs
    obtain ⟨g, hg, rfl⟩ := List.mem_map.1 hs
    obtain ⟨x, hx, he⟩ := zw.1 (ht g hg)
    exact List.mem_map.2 ⟨x, hx, he⟩
  have hl : (zb (h.fols.map Fol.name)).length = h.fols.length := by
    have := (JD (h.fols.map Fol.name) h.fols.length (by simp)).2
    rw [show (h.fols.map Fol.name).take h.fols.length = h.fols.map Fol.name from List.take_of_length_le (by simp)] at this
    exact this.2 hn
  rw [Bool.eq_iff_iff, decide_eq_true_iff, J6, ← hl, Wn hsub]
  unfold vu
  rw [Bool.and_eq_true, List.all_eq_true, List.all_eq_true]
  constructor
  · intro h1
    refine ⟨ht, fun s hs => ?_⟩
    obtain ⟨g, hg, he⟩ := List.mem_map.1 (h1 (List.mem_map.2 ⟨s, hs, rfl⟩))
    exact v6.2 ⟨g, hg, he⟩
  · rintro ⟨_, h1⟩ s hs
    obtain ⟨x, hx, rfl⟩ := List.mem_map.1 hs
    obtain ⟨g, hg, he⟩ := v6.1 (h1 x hx)
    exact List.mem_map.2 ⟨g, hg, he⟩
theorem W8 {h : Hub} {k : Nat} (hk : k < h.gras.length) (hn : xr h.fols h.gras[k].folder = false) : vu h = false := by
  unfold vu
  rw [Bool.and_eq_false_iff]
  left
  rw [List.all_eq_false]
  exact ⟨h.gras[k], List.getElem_mem _, by rw [hn]; decide⟩
theorem qc9 (h : Hub) (hl : h.fols.length ≤ 1000000) (hg : h.gras.length ≤ 1000000) (hs : qr yE h.fols = true) : jY C.P 40 [zB h] (.v (.bool (vu h))) := by
  have hml := fun ht => qc8 (h := h) hs ht
  have hmn := @W8 h
  have hfi := fun p => Yy h p (by omega) hs
  obtain ⟨F, G, U, now⟩ := h
  dsimp only at *
  refine qa Tryz.func40 rfl _ Tryz.ntmps40 (Nat.le_of_ble_eq_true rfl) _ Tryz.results40 0 rfl rfl ?_
  (repeat apply j0); apply jm; (repeat' (first | apply jL | refine zc ?_ | refine zd ?_ | refine zi ?_ | refine kV ?_ | refine za ?_ | refine ze ?_ | refine Qu ?_ | refine wj ?_ | refine JH ?_ | refine wI ?_ | refine zl ?_ | refine vH ?_ | (first | fail) | refine xl ?_)); show Awp _ _ _ _ _
  refine kf 1 0 ?_
  repeat' (first | refine qe ?_ | (first | (apply yP; apply vp; exact nle rfl) | (apply qj; apply vB; rfl; rfl; rfl; rfl; exact nle rfl) | (apply y8; apply xC; rfl; rfl; rfl; rfl; rfl; rfl; rfl; rfl)) | ((first | refine xsC ?_ ?_); all_goals (intro hc; have hp := hc; try simp at hp; try (exfalso; omega))) | refine qw ?_ ?_)
  all_goals try (exfalso; omega)
  (refine Awp.red (jq (τ := ⟨[(1, .fp [Hub.row ⟨F, G, U, now⟩] 0 0), (3, .mp 0), (10, jD G), (11, .v (.int .i64 G.length)), (12, .v (.int .i64 ((0 : Nat) : Int)))], [(0, .mp (J6 (G.take 0)))], 1⟩) [(1, 0)] rfl ?gts ?ghs) ?gmain; (case gts => (repeat (first | exact qd | (apply kE; (case hx => rfl); (case hp => first | rfl | (simp [AV.pure, AV.pure.pureL, *]; done))) | (apply Jj; (case hx => rfl); (case hm => (first | exact jh rfl | exact .inr (List.mem_cons_self ..) | exact .inr (List.mem_cons_of_mem _ (List.mem_cons_self ..)) | exact .inr (List.mem_cons_of_mem _ (List.mem_cons_of_mem _ (List.mem_cons_self ..))) | exact .inr (List.mem_cons_of_mem _ (List.mem_cons_of_mem _ (List.mem_cons_of_mem _ (List.mem_cons_self ..))))))) | (apply Jo; rfl; (first | exact jh rfl | exact .inr (List.mem_cons_self ..) | exact .inr (List.mem_cons_of_mem _ (List.mem_cons_self ..)) | exact .inr (List.mem_cons_of_mem _ (List.mem_cons_of_mem _ (List.mem_cons_self ..))) | exact .inr (List.mem_cons_of_mem _ (List.mem_cons_of_mem _ (List.mem_cons_of_mem _ (List.mem_cons_self ..)))))) | (apply J5; (conv => lhs; whnf); rotate_left; rfl))); all_goals (rw [List.length_map])); (case ghs => (repeat (first | exact qg | (apply J1; (case hm => (first | exact jh rfl | exact .inr (List.mem_cons_self ..) | exact .inr (List.mem_cons_of_mem _ (List.mem_cons_self ..)) | exact .inr (List.mem_cons_of_mem _ (List.mem_cons_of_mem _ (List.mem_cons_self ..))) | exact .inr (List.mem_cons_of_mem _ (List.mem_cons_of_mem _ (List.mem_cons_of_mem _ (List.mem_cons_self ..)))))); (case hx => rfl); (case hp => first | assumption | exact nofun | skip); (first | (case hr => rfl) | (case hr => assumption) | rotate_left))))))
  refine qu (fun n σ => ∃ i : Nat, i ≤ G.length ∧ n = G.length - i ∧ (∀ g, g ∈ G.take i → xr F g.folder = true) ∧ σ = ⟨[(1, .fp [Hub.row ⟨F, G, U, now⟩] 0 0), (3, .mp 0), (10, jD G), (11, .v (.int .i64 G.length)), (12, .v (.int .i64 (i : Int)))], [(0, .mp (J6 (G.take i)))], 1⟩) G.length ⟨0, Nat.zero_le _, rfl, (by simp), rfl⟩ ?_
  rintro n σ ⟨i, hi, rfl, hsofar, rfl⟩
  by_cases hlt : i < G.length
  · have hr := qF (f := Gra.row) hlt
    have hp1 := Jb ((G.take (i + 1)).map (·.folder))
    have hf := hfi G[i].folder
    have h4 := ZX hlt
    cases hh : xr F G[i].folder with
    | false =>
      rw [hmn hlt hh]
      rw [hh] at hf
      clear hml hmn hfi
      repeat' (first | refine qe ?_ | (first | (apply yP; apply vp; exact nle rfl) | (apply qj; apply vB; rfl; rfl; rfl; rfl; exact nle rfl) | (apply y8; apply xC; rfl; rfl; rfl; rfl; rfl; rfl; rfl; rfl) | refine xsQ Tryz.func58 (hf ..) ?_) | ((first | refine xsC ?_ ?_); all_goals (intro hc; have hp := hc; try simp at hp; try (exfalso; omega))) | refine qw ?_ ?_)
      all_goals try (exfalso; first | omega | contradiction)
      (exact yv (rs := [.tmp 2]))
    | true =>
      rw [hh] at hf
      clear hml hmn hfi
      repeat' (first | refine qe ?_ | (first | (apply yP; apply vp; exact nle rfl) | (apply qj; apply vB; rfl; rfl; rfl; rfl; exact nle rfl) | (apply y8; apply xC; rfl; rfl; rfl; rfl; rfl; rfl; rfl; rfl) | refine xsQ Tryz.func58 (hf ..) ?_) | ((first | refine xsC ?_ ?_); all_goals (intro hc; have hp := hc; try simp at hp; try (exfalso; omega))) | refine qw ?_ ?_)
      all_goals try (exfalso; first | omega | contradiction)
      refine ⟨G.length - (i + 1), _, by omega, jq (τ := ⟨[(1, .fp [Hub.row ⟨F, G, U, now⟩] 0 0), (3, .mp 0), (10, jD G), (11, .v (.int .i64 G.length)), (12, .v (.int .i64 ((i + 1 : Nat) : Int)))], [(0, .mp (J6 (G.take (i + 1))))], 1⟩) [(0, 0)] rfl ?gts ?ghs, i + 1, by omega, rfl, qK hlt hsofar hh, rfl⟩; (case gts => (repeat (first | exact qd | (apply kE; (case hx => rfl); (case hp => first | rfl | (simp [AV.pure, AV.pure.pureL, *]; done))) | (apply Jj; (case hx => rfl); (case hm => (first | exact jh rfl | exact .inr (List.mem_cons_self ..) | exact .inr (List.mem_cons_of_mem _ (List.mem_cons_self ..)) | exact .inr (List.mem_cons_of_mem _ (List.mem_cons_of_mem _ (List.mem_cons_self ..))) | exact .inr (List.mem_cons_of_mem _ (List.mem_cons_of_mem _ (List.mem_cons_of_mem _ (List.mem_cons_self ..))))))) | (apply Jo; rfl; (first | exact jh rfl | exact .inr (List.mem_cons_self ..) | exact .inr (List.mem_cons_of_mem _ (List.mem_cons_self ..)) | exact .inr (List.mem_cons_of_mem _ (List.mem_cons_of_mem _ (List.mem_cons_self ..))) | exact .inr (List.mem_cons_of_mem _ (List.mem_cons_of_mem _ (List.mem_cons_of_mem _ (List.mem_cons_self ..)))))) | (apply J5; (conv => lhs; whnf); rotate_left; rfl)))); (case ghs => (repeat (first | exact qg | (apply J1; (case hm => (first | exact jh rfl | exact .inr (List.mem_cons_self ..) | exact .inr (List.mem_cons_of_mem _ (List.mem_cons_self ..)) | exact .inr (List.mem_cons_of_mem _ (List.mem_cons_of_mem _ (List.mem_cons_self ..))) | exact .inr (List.mem_cons_of_mem _ (List.mem_cons_of_mem _ (List.mem_cons_of_mem _ (List.mem_cons_self ..)))))); (case hx => rfl); (case hp => first | assumption | exact nofun | skip); (first | (case hr => rfl) | (case hr => assumption) | rotate_left)))); all_goals (first | exact h4.symm | trace_state))
  obtain rfl : i = G.length := by omega
  rw [List.take_length] at hsofar
  rw [← hml hsofar]
  clear hml hmn hfi
  rw [List.take_length]
  generalize J6 G = AM at *
  repeat' (first | refine qe ?_ | (first | (apply yP; apply vp; exact nle rfl) | (apply qj; apply vB; rfl; rfl; rfl; rfl; exact nle rfl) | (apply y8; apply xC; rfl; rfl; rfl; rfl; rfl; rfl; rfl; rfl)) | ((first | refine xsC ?_ ?_); all_goals (intro hc; have hp := hc; try simp at hp; try (exfalso; omega))) | refine qw ?_ ?_)
  all_goals try (exfalso; omega)
  apply jA
  rfl
  simp [Int.ofNat_inj]
end Go.Proofs.YtiljlcgmcmjcoaaGreatDoor
