import Derived.Test.YtiljlcgmcmjcoaaGreatDoorMz16
import Derived.Test.YtiljlcgmcmjcoaaGreatDoorMz7
import Derived.Test.YtiljlcgmcmjcoaaGreatDoorMz0
set_option linter.unusedSimpArgs false
namespace Go.Proofs.YtiljlcgmcmjcoaaGreatDoor
open Go.Ab
def qcq (l : List Gra) (f : qC) : Bool := l.any fun h => decide (h.folder = f) && decide (h.right = 3)
def wU (l : List Gra) : Bool := l.all fun g => qcq l g.folder
def Yt (l : List Gra) : List (List UInt8 × AV) := zw (l.map (·.folder))
def Vc (l : List Gra) : List (List UInt8 × AV) := zw ((l.filter (fun g => decide (g.right = 3))).map (·.folder))
theorem qck (l : List Gra) : decide ((Vc l).length = (Yt l).length) = wU l := by
  have hsub : (l.filter (fun g => decide (g.right = 3))).map (·.folder) ⊆ l.map (·.folder) := by
    intro s hs
    obtain ⟨g, hg, rfl⟩ := List.mem_map.1 hs
    exact List.mem_map.2 ⟨g, (List.mem_filter.1 hg).1, rfl⟩
  rw [Bool.eq_iff_iff, decide_eq_true_iff, Vc, Yt, WG hsub, wU, List.all_eq_true]
  constructor
  · intro h g hg
    obtain ⟨g', hg', he⟩ := List.mem_map.1 (h (List.mem_map.2 ⟨g, hg, rfl⟩))
    have := List.mem_filter.1 hg'
    exact List.any_eq_true.2 ⟨g', this.1, by simp [he, of_decide_eq_true this.2]⟩
  · intro h s hs
    obtain ⟨g, hg, rfl⟩ := List.mem_map.1 hs
    obtain ⟨g', hg', he⟩ := List.any_eq_true.1 (h g hg)
    simp only [Bool.and_eq_true, decide_eq_true_eq] at he
    exact List.mem_map.2 ⟨g', List.mem_filter.2 ⟨hg', by simp [he.2]⟩, he.1⟩
theorem Kt {l : List Gra} {i : Nat} (h : i < l.length) : Yt (l.take (i + 1)) = y6 (Yt (l.take i)) l[i].folder yes := by
  rw [Yt, List.take_succ_eq_append_getElem h, List.map_append]; exact Jr _ _
theorem qew {l : List Gra} {i : Nat} (h : i < l.length) (h3 : l[i].right = 3) : Vc (l.take (i + 1)) = y6 (Vc (l.take i)) l[i].folder yes := by
  rw [Vc, List.take_succ_eq_append_getElem h, List.filter_append, List.map_append, List.filter_cons_of_pos (by simp [h3])]; exact Jr _ _
theorem qgR {l : List Gra} {i : Nat} (h : i < l.length) (h3 : ¬ l[i].right = 3) : Vc (l.take (i + 1)) = Vc (l.take i) := by
  rw [Vc, List.take_succ_eq_append_getElem h, List.filter_append, List.map_append, List.filter_cons_of_neg (by simp [h3])]; simp [Vc]
end Go.Proofs.YtiljlcgmcmjcoaaGreatDoor
set_option linter.unusedSimpArgs false
namespace Go.Proofs.YtiljlcgmcmjcoaaGreatDoor
open Go.Op
def jA (a b : Gra) : Bool := bytesLess a.folder b.folder || (decide (a.folder = b.folder) && bytesLess a.who b.who)
theorem wy (a b : Gra) : zX a b < 0 ↔ jA a b = true := by
  unfold zX jA
  by_cases h : a.folder = b.folder
  · rw [if_pos ((xd _ _).2 h), z2, h]; simp [xH]
  · rw [if_neg (fun e => h ((xd _ _).1 e)), z2]; simp [h]
theorem zk (a b : Gra) : zX a b = 0 ↔ a.folder = b.folder ∧ a.who = b.who := by
  unfold zX
  by_cases h : a.folder = b.folder
  · rw [if_pos ((xd _ _).2 h), xd]; simp [h]
  · rw [if_neg (fun e => h ((xd _ _).1 e)), xd]; simp [h]
theorem qb1 (a b : Gra) : 0 < zX a b ↔ jA b a = true := by
  unfold zX jA
  by_cases h : a.folder = b.folder
  · rw [if_pos ((xd _ _).2 h), Zw, h]; simp [xH]
  · rw [if_neg (fun e => h ((xd _ _).1 e)), Zw]; simp [show ¬ b.folder = a.folder from fun e => h e.symm]
theorem wN {a b c : Gra} (h1 : jA a b = true) (h2 : jA b c = true) : jA a c = true := by
  simp only [jA, Bool.or_eq_true, Bool.and_eq_true, decide_eq_true_eq] at *
  rcases h1 with h1 | ⟨e1, h1⟩
  · rcases h2 with h2 | ⟨e2, h2⟩
    · exact .inl (xZ h1 h2)
    · exact .inl (e2 ▸ h1)
  · rcases h2 with h2 | ⟨e2, h2⟩
    · exact .inl (e1 ▸ h2)
    · exact .inr ⟨e1.trans e2, xZ h1 h2⟩
theorem XB (a : Gra) : jA a a = false := by simp [jA, xH]
theorem qdg (a b : Gra) : (bytesLess b.folder a.folder || (decide (b.folder = a.folder) && (bytesLess b.who a.who || decide (b.who = a.who)))) = !jA a b := by
  unfold jA
  rcases wg a.folder b.folder with ⟨h1, h2, h3⟩ | ⟨h1, h2, h3⟩ | ⟨h1, h2, h3⟩
  · have h4 : ¬ b.folder = a.folder := fun e => h3 e.symm
    simp [h1, h2, h3, h4]
  · rw [h1]
    rcases wg a.who b.who with ⟨g1, g2, g3⟩ | ⟨g1, g2, g3⟩ | ⟨g1, g2, g3⟩
    · have g4 : ¬ b.who = a.who := fun e => g3 e.symm
      simp [xH, g1, g2, g3, g4]
    · simp [xH, g1]
    · simp [xH, g1, g2, g3]
  · simp [h1, h2, h3]
def vj (g : Gra) : Int := if qo g.folder && qo g.who then (if qA g.right 1 3 then 0 else 3) else 1
def jH (l : List Gra) : Int :=
  if 60 < l.length then 2
  else if jI vj l = 0 then
    if qt jA l then
      if wU l then 0 else 5
    else 4
  else jI vj l
def va (l : List Gra) (g : Gra) : Nat := (l.takeWhile (fun x => jA x g)).length
theorem K7 {g : Gra} : ∀ {l : List Gra} {p : Nat}, p ≤ l.length → (∀ (k : Nat) (h : k < l.length), k < p → jA l[k] g = true) → (∀ (h : p < l.length), jA l[p] g = false) → va l g = p
  | [], p, hp, _, _ => by simp at hp; simp [va, hp]
  | x :: l, 0, _, _, h2 => by
    have := h2 (by simp)
    simp only [List.getElem_cons_zero] at this
    simp [va, List.takeWhile_cons, this]
  | x :: l, p + 1, hp, h1, h2 => by
    have hx : jA x g = true := h1 0 (by simp) (by omega)
    have := K7 (l := l) (p := p) (by simpa using hp) (fun k h hk => h1 (k + 1) (by simpa using h) (by omega)) (fun h => h2 (by simpa using h))
    simp only [va] at this
    simp [va, List.takeWhile_cons, hx, this]
theorem qcT (l : List Gra) (g : Gra) : va l g ≤ l.length := by
  induction l with
  | nil => simp [va]
  | cons x l ih => simp only [va, List.takeWhile_cons] at *; split <;> simp <;> omega
def sameKey (g x : Gra) : Bool := decide (x.folder = g.folder) && decide (x.who = g.who)
def zz (l : List Gra) (g : Gra) : Bool := match l[va l g]? with | some x => decide (zX x g = 0) | none => false
theorem Jo : ∀ {l : List Gra}, qt jA l = true → ∀ (j k : Nat) (hj : j < l.length) (hk : k < l.length), j < k → jA l[j] l[k] = true := by
  intro l h j k hj hk hjk
  induction k with
  | zero => omega
  | succ k ih =>
    have h1 := jW.1 h k hk
    by_cases e : j = k
    · subst e; exact h1
    · exact wN (ih (by omega) (by omega)) h1
theorem kR {a b c : Gra} (h : a.folder = b.folder ∧ a.who = b.who) : jA c a = jA c b ∧ jA a c = jA b c := by simp [jA, h.1, h.2]
theorem KX {l : List Gra} {g : Gra} (hs : qt jA l = true) {k : Nat} (hk : k < l.length) (he : sameKey g l[k] = true) : va l g = k := by
  simp only [sameKey, Bool.and_eq_true, decide_eq_true_eq] at he
  refine K7 (by omega) (fun j hj hjk => ?_) (fun _ => ?_)
  · rw [← (kR he).1]; exact Jo hs j k hj hk hjk
  · rw [← (kR he).1]; exact XB _
theorem WW {l : List Gra} (hs : qt jA l = true) (g : Gra) : zz l g = l.any (sameKey g) := by
  rcases xt (sameKey g) l with ⟨_, h2⟩ | ⟨k, hk, _, _, h3⟩
  · have : l.any (sameKey g) = false := List.any_eq_false.2 (fun x hx => by rw [h2 x hx]; simp)
    rw [this]
    unfold zz
    split
    · rename_i x hx
      have hm := List.mem_of_getElem? hx
      rw [decide_eq_false_iff_not, zk]
      intro h
      have := h2 x hm
      simp [sameKey, h.1, h.2] at this
    · rfl
  · have : l.any (sameKey g) = true := List.any_eq_true.2 ⟨l[k], List.getElem_mem _, h3⟩
    rw [this]
    unfold zz
    rw [KX hs hk h3, List.getElem?_eq_getElem hk]
    simp only [decide_eq_true_eq, zk]
    simp only [sameKey, Bool.and_eq_true, decide_eq_true_eq] at h3
    exact h3
theorem XK {g : Gra} (h : qo g.folder = false ∨ qo g.who = false) : vj g = 1 := by
  unfold vj; rcases h with h | h <;> simp [h]
theorem Yh {g : Gra} (h : qo g.folder = true ∧ qo g.who = true) (hr : ¬ (1 ≤ g.right ∧ g.right ≤ 3)) : vj g = 3 := by
  have : qA g.right 1 3 = false := by simp [qA]; omega
  unfold vj; simp [h.1, h.2, this]
theorem Xk {g : Gra} (h : qo g.folder = true ∧ qo g.who = true) (hr : 1 ≤ g.right ∧ g.right ≤ 3) : vj g = 0 := by
  have : qA g.right 1 3 = true := by simp [qA]; omega
  unfold vj; simp [h.1, h.2, this]
theorem kI {l : List Gra} (h60 : ¬ 60 < l.length) {k : Nat} (hk : k < l.length) (hs : ∀ g, g ∈ l.take k → vj g = 0) {e : Int} (he : vj l[k] = e) (h0 : e ≠ 0) : e = jH l := by
  have h1 := zv hk hs (by rw [he]; exact h0)
  have hz : ¬ jI vj l = 0 := by rw [h1, he]; exact h0
  simp only [jH, h60, hz, if_false]
  rw [h1, he]
end Go.Proofs.YtiljlcgmcmjcoaaGreatDoor
