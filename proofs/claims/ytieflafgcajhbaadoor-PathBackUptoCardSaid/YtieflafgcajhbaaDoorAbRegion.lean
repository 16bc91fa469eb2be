/- The abstract layer, 2: what an operation does to a state; a region in whatever order its edges allow. -/
import Derived.Test.YtieflafgcajhbaaDoorAbCore
namespace Go.Ab

/-- What an operation reads and writes: slots and names. fr: names that it makes. -/
structure Eff where
  rt : List Nat
  rh : List Nat
  wt : Option Nat
  val : AV
  wh : List (Nat × HB)
  fr : List Nat

def findH : List (Nat × HB) → Nat → Option HB
  | [], _ => none
  | (m, x) :: l, n => if m = n then some x else findH l n

def Eff.wT (E : Eff) (i : Nat) : Option AV := if E.wt = some i then some E.val else none
def Eff.wH (E : Eff) (n : Nat) : Option HB := findH E.wh n
def Eff.t (E : Eff) (t : Nat → AV) : Nat → AV := fun i => (E.wT i).getD (t i)
def Eff.h (E : Eff) (h : Nat → HB) : Nat → HB := fun n => (E.wH n).getD (h n)

/-- The operation i does just that, wherever what it reads is as told. -/
def OpOk (P : Program) (ops : Array Oper) (N i : Nat) (t : Nat → AV) (h : Nat → HB) (E : Eff) : Prop :=
  ∀ (B : Base) (A : Nat → Prop) (t' : Nat → AV) (h' : Nat → HB) (a : Act) (w : World) (Q : Exit → Act → World → Prop) (K : Act → World → Prop),
    B.N = N → Ga B A t' h' a w → (∀ j, j ∈ E.rt → t' j = t j) → (∀ n, n ∈ E.rh → h' n = h n) → (∀ n, n ∈ E.fr → ¬ A n) →
    (∀ a' w', Ga B (fun n => A n ∨ n ∈ E.fr) (E.t t') (E.h h') a' w' → K a' w') → wpOp P ops Q i K a w

section run
variable {R V : Type} (W : Eff → R → Option V)

/-- What stands at r behind those operations of the list that are done. -/
def run (D : Nat → Bool) : Nat → List Eff → (R → V) → R → V
  | _, [], x => x
  | i, E :: Es, x => run D (i + 1) Es (fun r => if D i then (W E r).getD (x r) else x r)

theorem run_congr (D D' : Nat → Bool) (r : R) : ∀ (Es : List Eff) (i : Nat) (x x' : R → V), x r = x' r → (∀ (j : Nat) E, Es[j]? = some E → W E r ≠ none → D (i + j) = D' (i + j)) → run W D i Es x r = run W D' i Es x' r
  | [], _, _, _, h, _ => h
  | E :: Es, i, x, x', h, hw => by
    simp only [run]
    refine run_congr D D' r Es (i + 1) _ _ ?_ (fun j E' hj hn => by have := hw (j + 1) E' (by simpa using hj) hn; rw [show i + 1 + j = i + (j + 1) from by omega]; exact this)
    show (if D i then (W E r).getD (x r) else x r) = if D' i then (W E r).getD (x' r) else x' r
    cases hwr : W E r with
    | none => simp [h]
    | some u => have := hw 0 E rfl (by simp [hwr]); rw [Nat.add_zero] at this; rw [this, h]

theorem run_add (D D' : Nat → Bool) (r : R) (m : Nat) (Em : Eff) : ∀ (Es : List Eff) (i : Nat) (x : R → V), Es[m]? = some Em → D (i + m) = false → D' (i + m) = true → (∀ j, j ≠ i + m → D' j = D j) →
    (∀ (j : Nat) E, Es[j]? = some E → m < j → W Em r ≠ none → W E r ≠ none → D (i + j) = false) → run W D' i Es x r = (W Em r).getD (run W D i Es x r)
  | [], _, _, h, _, _, _, _ => by simp at h
  | E :: Es, i, x, hm, h0, h1, hne, hlast => by
    cases m with
    | zero =>
      simp only [List.getElem?_cons_zero, Option.some.injEq] at hm
      subst hm
      simp only [run]
      rw [Nat.add_zero] at h0 h1 hne
      simp only [h0, h1, if_true, Bool.false_eq_true, if_false]
      cases hw : W E r with
      | none => simp only [Option.getD_none]; exact run_congr W D' D r Es (i + 1) _ _ (by simp [hw]) (fun j E' hj hn => hne _ (by omega))
      | some u =>
        simp only [Option.getD_some]
        have hz : ∀ (Es' : List Eff) (i' : Nat) (y : R → V), y r = u → (∀ (j : Nat) E', Es'[j]? = some E' → W E' r ≠ none → D' (i' + j) = false) → run W D' i' Es' y r = u := by
          intro Es'
          induction Es' with
          | nil => intro i' y hy _; exact hy
          | cons E' Es' ih =>
            intro i' y hy hall
            simp only [run]
            refine ih (i' + 1) _ ?_ (fun j E'' hj hn => by have := hall (j + 1) E'' (by simpa using hj) hn; rw [show i' + 1 + j = i' + (j + 1) from by omega]; exact this)
            show (if D' i' then (W E' r).getD (y r) else y r) = u
            cases hw' : W E' r with
            | none => simp [hy]
            | some u' => have := hall 0 E' rfl (by simp [hw']); rw [Nat.add_zero] at this; simp [this, hy]
        exact hz Es (i + 1) _ (by simp [hw]) (fun j E' hj hn => by
          have := hlast (j + 1) E' (by simpa using hj) (by omega) (by simp [hw]) hn
          rw [show i + 1 + j = i + (j + 1) from by omega, hne _ (by omega)]; exact this)
    | succ m =>
      simp only [run]
      rw [run_congr W D' D' r Es (i + 1) _ (fun r => if D i then (W E r).getD (x r) else x r) (by rw [hne i (by omega)]) (fun _ _ _ _ => rfl)]
      exact run_add D D' r m Em Es (i + 1) _ (by simpa using hm) (by rw [show i + 1 + m = i + (m + 1) from by omega]; exact h0) (by rw [show i + 1 + m = i + (m + 1) from by omega]; exact h1)
        (fun j hj => hne j (by omega)) (fun j E' hj hlt h2 h3 => by rw [show i + 1 + j = i + (j + 1) from by omega]; exact hlast (j + 1) E' (by simpa using hj) (by omega) h2 h3)
end run

def runT := run Eff.wT
def runH := run Eff.wH

/-- The state ahead of operation i, in the order of the text. -/
def upto (i : Nat) : Nat → Bool := fun j => decide (j < i)

def isWh (n : Nat) : List (Nat × HB) → Bool
  | [] => false
  | (m, _) :: l => m == n || isWh n l

/-- Do two operations touch one thing, and one of them writes it? -/
def clash (E G : Eff) : Bool :=
  (match E.wt with | some d => G.rt.contains d || G.wt == some d | none => false) || (match G.wt with | some d => E.rt.contains d | none => false) ||
  (E.wh.any fun x => G.rh.contains x.1 || isWh x.1 G.wh) || (G.wh.any fun x => E.rh.contains x.1)

/-- Which operations come ahead of an operation, as bits; the list is of the operations from number i on, acc of those ahead, the last in front. -/
def aheadOf (after : Array Edge) (acc : List Nat) : Nat :=
  after.toList.foldl (fun s e => if Region.binds .any e then s ||| 2 ^ e.on ||| acc.getD (acc.length - 1 - e.on) 0 else s) 0

/-- Is each clash in order? acc: the bits, pre: the effects, the last in front. -/
def orderly : List Oper → List Eff → (acc : List Nat) → (pre : List Eff) → Bool
  | [], [], _, _ => true
  | o :: os, E :: Es, acc, pre =>
    let b := aheadOf o.after acc
    (o.after.toList.all fun e => !Region.binds .any e || decide (e.on < acc.length)) &&
    (pre.zipIdx.all fun x => !clash x.1 E || b.testBit (pre.length - 1 - x.2)) && orderly os Es (b :: acc) (E :: pre)
  | _, _, _, _ => false

theorem foldl_or_mono (f : Nat → Edge → Nat) (hf : ∀ s e k, s.testBit k = true → (f s e).testBit k = true) : ∀ (l : List Edge) (s k : Nat), s.testBit k = true → (l.foldl f s).testBit k = true
  | [], _, _, h => h
  | e :: l, s, k, h => foldl_or_mono f hf l _ _ (hf s e k h)

/-- What 'ahead' says: whoever is among the bits is done before. -/
theorem ahead_spec (acc : List Nat) (D : Nat → Bool) (hacc : ∀ (j : Nat) b, acc[j]? = some b → D (acc.length - 1 - j) = true → ∀ k, b.testBit k = true → D k = true) (after : Array Edge)
    (hin : after.toList.all (fun e => !Region.binds .any e || decide (e.on < acc.length)) = true) (hD : ∀ e, e ∈ after → Region.binds .any e = true → D e.on = true) :
    ∀ k, (aheadOf after acc).testBit k = true → D k = true := by
  unfold aheadOf
  have key : ∀ (l : List Edge) (s : Nat), (∀ e, e ∈ l → Region.binds .any e = true → D e.on = true ∧ e.on < acc.length) → (∀ k, s.testBit k = true → D k = true) →
      ∀ k, (l.foldl (fun s e => if Region.binds .any e then s ||| 2 ^ e.on ||| acc.getD (acc.length - 1 - e.on) 0 else s) s).testBit k = true → D k = true := by
    intro l
    induction l with
    | nil => intro s _ hs k hk; exact hs k hk
    | cons e l ih =>
      intro s hl hs k hk
      simp only [List.foldl_cons] at hk
      refine ih _ (fun e' he' => hl e' (List.mem_cons_of_mem _ he')) ?_ k hk
      intro k' hk'
      split at hk'
      · rename_i hb
        obtain ⟨hd, hlt⟩ := hl e (List.mem_cons_self ..) hb
        simp only [Nat.testBit_or, Bool.or_eq_true] at hk'
        rcases hk' with (hk' | hk') | hk'
        · exact hs k' hk'
        · rw [Nat.testBit_two_pow] at hk'
          have : e.on = k' := by simpa using hk'
          exact this ▸ hd
        · rw [List.getD_eq_getElem?_getD] at hk'
          cases hj : acc[acc.length - 1 - e.on]? with
          | none => simp [hj] at hk'
          | some b =>
            simp only [hj, Option.getD_some] at hk'
            exact hacc _ b hj (by rw [show acc.length - 1 - (acc.length - 1 - e.on) = e.on from by omega]; exact hd) k' hk'
      · exact hs k' hk'
  refine key after.toList 0 ?_ (fun k hk => by simp at hk)
  intro e he hb
  have h1 := List.all_eq_true.1 hin e he
  simp only [hb, Bool.not_true, Bool.false_or, decide_eq_true_eq] at h1
  exact ⟨hD e (by simpa using he) hb, h1⟩

end Go.Ab
