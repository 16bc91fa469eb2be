import Derived.Test.YtiljlcgmcmjcoaaGreatDoorMz16
import Derived.Test.YtiljlcgmcmjcoaaGreatDoorMz7
import Derived.Test.YtiljlcgmcmjcoaaGreatDoorMz0
set_option linter.unusedSimpArgs false
namespace Go.Proofs.YtiljlcgmcmjcoaaGreatDoor
open Go.Ab
def qbC (l : List Gra) (f : qB) : Bool := l.any fun h => decide (h.folder = f) && decide (h.right = 3)
def wF (l : List Gra) : Bool := l.all fun g => qbC l g.folder
def J6 (l : List Gra) : List (List UInt8 × AV) := zb (l.map (·.folder))
def XX (l : List Gra) : List (List UInt8 × AV) := zb ((l.filter (fun g => decide (g.right = 3))).map (·.folder))
theorem qbt (l : List Gra) : decide ((XX l).length = (J6 l).length) = wF l := by
  have hsub : (l.filter (fun g => decide (g.right = 3))).map (·.folder) ⊆ l.map (·.folder) := by
    intro s hs
    obtain ⟨g, hg, rfl⟩ := List.mem_map.1 hs
    exact List.mem_map.2 ⟨g, (List.mem_filter.1 hg).1, rfl⟩
  rw [Bool.eq_iff_iff, decide_eq_true_iff, XX, J6, Wn hsub, wF, List.all_eq_true]
  constructor
  · intro h g hg
    obtain ⟨g', hg', he⟩ := List.mem_map.1 (h (List.mem_map.2 ⟨g, hg, rfl⟩))
    have := List.mem_filter.1 hg'
    exact List.any_eq_true.2 ⟨g', this.1, by simp [he, of_decide_eq_true this.2]⟩
  · intro h s hs
    obtain ⟨g, hg, rfl⟩ := List.mem_map.1 hs
    obtain ⟨g', hg', he⟩ := List.any_eq_true.1 (h g hg)
    simp only [Bool.and_eq_true, decide_eq_true_eq] at he
    exact List.mem_map.2 ⟨g', List.mem_filter.2 ⟨hg', by simp [he.2]⟩, he.1⟩
theorem ZX {l : List Gra} {i : Nat} (h : i < l.length) : J6 (l.take (i + 1)) = yU (J6 (l.take i)) l[i].folder yes := by
  rw [J6, List.take_succ_eq_append_getElem h, List.map_append]; exact Ji _ _
theorem qdP {l : List Gra} {i : Nat} (h : i < l.length) (h3 : l[i].right = 3) : XX (l.take (i + 1)) = yU (XX (l.take i)) l[i].folder yes := by
  rw [XX, List.take_succ_eq_append_getElem h, List.filter_append, List.map_append, List.filter_cons_of_pos (by simp [h3])]; exact Ji _ _
theorem qfL {l : List Gra} {i : Nat} (h : i < l.length) (h3 : ¬ l[i].right = 3) : XX (l.take (i + 1)) = XX (l.take i) := by
  rw [XX, List.take_succ_eq_append_getElem h, List.filter_append, List.map_append, List.filter_cons_of_neg (by simp [h3])]; simp [XX]
end Go.Proofs.YtiljlcgmcmjcoaaGreatDoor
set_option linter.unusedSimpArgs false
namespace Go.Proofs.YtiljlcgmcmjcoaaGreatDoor
open Go.Op
def jv (a b : Gra) : Bool := bytesLess a.folder b.folder || (decide (a.folder = b.folder) && bytesLess a.who b.who)
theorem kR (a b : Gra) : zF a b < 0 ↔ jv a b = true := by
  unfold zF jv
  by_cases h : a.folder = b.folder
  · rw [if_pos ((y1 _ _).2 h), zN, h]; simp [xu]
  · rw [if_neg (fun e => h ((y1 _ _).1 e)), zN]; simp [h]
theorem vU (a b : Gra) : zF a b = 0 ↔ a.folder = b.folder ∧ a.who = b.who := by
  unfold zF
  by_cases h : a.folder = b.folder
  · rw [if_pos ((y1 _ _).2 h), y1]; simp [h]
  · rw [if_neg (fun e => h ((y1 _ _).1 e)), y1]; simp [h]
theorem qaM (a b : Gra) : 0 < zF a b ↔ jv b a = true := by
  unfold zF jv
  by_cases h : a.folder = b.folder
  · rw [if_pos ((y1 _ _).2 h), V1, h]; simp [xu]
  · rw [if_neg (fun e => h ((y1 _ _).1 e)), V1]; simp [show ¬ b.folder = a.folder from fun e => h e.symm]
theorem wA {a b c : Gra} (h1 : jv a b = true) (h2 : jv b c = true) : jv a c = true := by
  simp only [jv, Bool.or_eq_true, Bool.and_eq_true, decide_eq_true_eq] at *
  rcases h1 with h1 | ⟨e1, h1⟩
  · rcases h2 with h2 | ⟨e2, h2⟩
    · exact .inl (xJ h1 h2)
    · exact .inl (e2 ▸ h1)
  · rcases h2 with h2 | ⟨e2, h2⟩
    · exact .inl (e1 ▸ h2)
    · exact .inr ⟨e1.trans e2, xJ h1 h2⟩
theorem YM (a : Gra) : jv a a = false := by simp [jv, xu]
theorem qcS (a b : Gra) : (bytesLess b.folder a.folder || (decide (b.folder = a.folder) && (bytesLess b.who a.who || decide (b.who = a.who)))) = !jv a b := by
  unfold jv
  rcases wc a.folder b.folder with ⟨h1, h2, h3⟩ | ⟨h1, h2, h3⟩ | ⟨h1, h2, h3⟩
  · have h4 : ¬ b.folder = a.folder := fun e => h3 e.symm
    simp [h1, h2, h3, h4]
  · rw [h1]
    rcases wc a.who b.who with ⟨g1, g2, g3⟩ | ⟨g1, g2, g3⟩ | ⟨g1, g2, g3⟩
    · have g4 : ¬ b.who = a.who := fun e => g3 e.symm
      simp [xu, g1, g2, g3, g4]
    · simp [xu, g1]
    · simp [xu, g1, g2, g3]
  · simp [h1, h2, h3]
def x9 (g : Gra) : Int := if qo g.folder && qo g.who then (if qz g.right 1 3 then 0 else 3) else 1
def jE (l : List Gra) : Int :=
  if 60 < l.length then 2
  else if jF x9 l = 0 then
    if qr jv l then
      if wF l then 0 else 5
    else 4
  else jF x9 l
def xQ (l : List Gra) (g : Gra) : Nat := (l.takeWhile (fun x => jv x g)).length
theorem Kq {g : Gra} : ∀ {l : List Gra} {p : Nat}, p ≤ l.length → (∀ (k : Nat) (h : k < l.length), k < p → jv l[k] g = true) → (∀ (h : p < l.length), jv l[p] g = false) → xQ l g = p
  | [], p, hp, _, _ => by simp at hp; simp [xQ, hp]
  | x :: l, 0, _, _, h2 => by
    have := h2 (by simp)
    simp only [List.getElem_cons_zero] at this
    simp [xQ, List.takeWhile_cons, this]
  | x :: l, p + 1, hp, h1, h2 => by
    have hx : jv x g = true := h1 0 (by simp) (by omega)
    have := Kq (l := l) (p := p) (by simpa using hp) (fun k h hk => h1 (k + 1) (by simpa using h) (by omega)) (fun h => h2 (by simpa using h))
    simp only [xQ] at this
    simp [xQ, List.takeWhile_cons, hx, this]
theorem qcy (l : List Gra) (g : Gra) : xQ l g ≤ l.length := by
  induction l with
  | nil => simp [xQ]
  | cons x l ih => simp only [xQ, List.takeWhile_cons] at *; split <;> simp <;> omega
def sameKey (g x : Gra) : Bool := decide (x.folder = g.folder) && decide (x.who = g.who)
def zh (l : List Gra) (g : Gra) : Bool := match l[xQ l g]? with | some x => decide (zF x g = 0) | none => false
theorem Jp : ∀ {l : List Gra}, qr jv l = true → ∀ (j k : Nat) (hj : j < l.length) (hk : k < l.length), j < k → jv l[j] l[k] = true := by
  intro l h j k hj hk hjk
  induction k with
  | zero => omega
  | succ k ih =>
    have h1 := jT.1 h k hk
    by_cases e : j = k
    · subst e; exact h1
    · exact wA (ih (by omega) (by omega)) h1
theorem kI {a b c : Gra} (h : a.folder = b.folder ∧ a.who = b.who) : jv c a = jv c b ∧ jv a c = jv b c := by simp [jv, h.1, h.2]
theorem Kj {l : List Gra} {g : Gra} (hs : qr jv l = true) {k : Nat} (hk : k < l.length) (he : sameKey g l[k] = true) : xQ l g = k := by
  simp only [sameKey, Bool.and_eq_true, decide_eq_true_eq] at he
  refine Kq (by omega) (fun j hj hjk => ?_) (fun _ => ?_)
  · rw [← (kI he).1]; exact Jp hs j k hj hk hjk
  · rw [← (kI he).1]; exact YM _
theorem qaF {l : List Gra} (hs : qr jv l = true) (g : Gra) : zh l g = l.any (sameKey g) := by
  rcases xf (sameKey g) l with ⟨_, h2⟩ | ⟨k, hk, _, _, h3⟩
  · have : l.any (sameKey g) = false := List.any_eq_false.2 (fun x hx => by rw [h2 x hx]; simp)
    rw [this]
    unfold zh
    split
    · rename_i x hx
      have hm := List.mem_of_getElem? hx
      rw [decide_eq_false_iff_not, vU]
      intro h
      have := h2 x hm
      simp [sameKey, h.1, h.2] at this
    · rfl
  · have : l.any (sameKey g) = true := List.any_eq_true.2 ⟨l[k], List.getElem_mem _, h3⟩
    rw [this]
    unfold zh
    rw [Kj hs hk h3, List.getElem?_eq_getElem hk]
    simp only [decide_eq_true_eq, vU]
    simp only [sameKey, Bool.and_eq_true, decide_eq_true_eq] at h3
    exact h3
theorem XI {g : Gra} (h : qo g.folder = false ∨ qo g.who = false) : x9 g = 1 := by
  unfold x9; rcases h with h | h <;> simp [h]
theorem Ya {g : Gra} (h : qo g.folder = true ∧ qo g.who = true) (hr : ¬ (1 ≤ g.right ∧ g.right ≤ 3)) : x9 g = 3 := by
  have : qz g.right 1 3 = false := by simp [qz]; omega
  unfold x9; simp [h.1, h.2, this]
theorem YO {g : Gra} (h : qo g.folder = true ∧ qo g.who = true) (hr : 1 ≤ g.right ∧ g.right ≤ 3) : x9 g = 0 := by
  have : qz g.right 1 3 = true := by simp [qz]; omega
  unfold x9; simp [h.1, h.2, this]
theorem ku {l : List Gra} (h60 : ¬ 60 < l.length) {k : Nat} (hk : k < l.length) (hs : ∀ g, g ∈ l.take k → x9 g = 0) {e : Int} (he : x9 l[k] = e) (h0 : e ≠ 0) : e = jE l := by
  have h1 := vZ hk hs (by rw [he]; exact h0)
  have hz : ¬ jF x9 l = 0 := by rw [h1, he]; exact h0
  simp only [jE, h60, hz, if_false]
  rw [h1, he]
end Go.Proofs.YtiljlcgmcmjcoaaGreatDoor
