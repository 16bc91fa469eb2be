/- The abstract layer, 3: the two theorems on regions. -/
import Derived.Test.YtieflafgcajhbaaDoorAbRegion
namespace Go.Ab

/-- Names are made in rising order, from lo on. -/
def incr : Nat → List Nat → Bool
  | _, [] => true
  | lo, n :: l => decide (lo ≤ n) && incr (n + 1) l

theorem incr_le : ∀ (l : List Nat) (lo : Nat), incr lo l = true → ∀ n, n ∈ l → lo ≤ n
  | a :: l, lo, h, n, hn => by
    simp only [incr, Bool.and_eq_true, decide_eq_true_eq] at h
    rcases List.mem_cons.1 hn with rfl | hn
    · exact h.1
    · have := incr_le l (a + 1) h.2 n hn; omega

theorem incr_append : ∀ (l m : List Nat) (lo : Nat), incr lo (l ++ m) = true → incr lo l = true ∧ (∀ a b, a ∈ l → b ∈ m → a < b) ∧ incr lo m = true
  | [], m, lo, h => ⟨rfl, fun a b ha => (by cases ha), h⟩
  | c :: l, m, lo, h => by
    simp only [List.cons_append, incr, Bool.and_eq_true, decide_eq_true_eq] at h ⊢
    obtain ⟨h1, h2, h3⟩ := incr_append l m (c + 1) h.2
    refine ⟨⟨h.1, h1⟩, fun a b ha hb => ?_, ?_⟩
    · rcases List.mem_cons.1 ha with rfl | ha
      · have := incr_le m (a + 1) h3 b hb; omega
      · exact h2 a b ha hb
    · have mono : ∀ (m : List Nat) (lo lo' : Nat), lo ≤ lo' → incr lo' m = true → incr lo m = true := by
        intro m lo lo' hl hm
        cases m with
        | nil => rfl
        | cons x m => simp only [incr, Bool.and_eq_true, decide_eq_true_eq] at hm ⊢; exact ⟨by omega, hm.2⟩
      exact mono m lo (c + 1) (by omega) h3

theorem incr_apart {Es : List Eff} {lo : Nat} (h : incr lo (Es.flatMap Eff.fr) = true) : ∀ (i j : Nat) E G n, Es[i]? = some E → Es[j]? = some G → n ∈ E.fr → n ∈ G.fr → i = j := by
  induction Es generalizing lo with
  | nil => intro i j E G n hi; simp at hi
  | cons X Es ih =>
    simp only [List.flatMap_cons] at h
    obtain ⟨_, h2, h3⟩ := incr_append _ _ _ h
    intro i j E G n hi hj hn hm
    have inn : ∀ (k : Nat) Y, Es[k]? = some Y → ∀ n, n ∈ Y.fr → n ∈ Es.flatMap Eff.fr := fun k Y hk n hn => List.mem_flatMap.2 ⟨Y, List.mem_of_getElem? hk, hn⟩
    cases i with
    | zero =>
      cases j with
      | zero => rfl
      | succ j =>
        simp at hi hj; subst hi
        have := h2 n n hn (inn j G hj n hm); omega
    | succ i =>
      cases j with
      | zero =>
        simp at hi hj; subst hj
        have := h2 n n hm (inn i E hi n hn); omega
      | succ j => simp at hi hj; exact congrArg (· + 1) (ih h3 i j E G n hi hj hn hm)

theorem Hp.weaken {B : Base} {A A' : Nat → Prop} {h : Nat → HB} {F : Still} {ρ : Places} {w : World} (hp : Hp B A h F ρ w) (hA : ∀ n, A n → A' n) : Hp B A' h F ρ w :=
  { hp with dom := fun n hn => hA n (hp.dom n hn) }

theorem Ga.weaken {B : Base} {A A' : Nat → Prop} {t : Nat → AV} {h : Nat → HB} {a : Act} {w : World} (g : Ga B A t h a w) (hA : ∀ n, A n → A' n) : Ga B A' t h a w :=
  let ⟨h1, h2, F, ρ, h3, h4⟩ := g
  ⟨h1, h2, F, ρ, h3.weaken hA, h4⟩

theorem Hp.drew {B : Base} {A : Nat → Prop} {h : Nat → HB} {F : Still} {ρ : Places} {w : World} (hp : Hp B A h F ρ w) : Hp B A h F ρ w.drew :=
  { hp with kept := hp.kept.drew, agree := hp.agree, own := fun n => hp.own n }

theorem Ga.drew {B : Base} {A : Nat → Prop} {t : Nat → AV} {h : Nat → HB} {a : Act} {w : World} (g : Ga B A t h a w) : Ga B A t h a w.drew :=
  let ⟨h1, h2, F, ρ, h3, h4⟩ := g
  ⟨h1, h2, F, ρ, h3.drew, h4⟩

/-- A region in the order of the text. -/
theorem wpOps_text {P : Program} {ops : Array Oper} {N : Nat} {B : Base} {Q : Exit → Act → World → Prop} (hN : B.N = N) (Es : List Eff) (lo : Nat) (t0 : Nat → AV) (h0 : Nat → HB) (hlen : Es.length = ops.size)
    (hinc : incr lo (Es.flatMap Eff.fr) = true)
    (hok : ∀ (i : Nat) E, Es[i]? = some E → OpOk P ops N i (runT (upto i) 0 Es t0) (runH (upto i) 0 Es h0) E)
    (hq : ∀ a' w', Ga B (fun n => n < lo ∨ n ∈ Es.flatMap Eff.fr) (runT (upto ops.size) 0 Es t0) (runH (upto ops.size) 0 Es h0) a' w' → Q .normal a' w') :
    ∀ (k m : Nat), m + k = ops.size → ∀ a w, Ga B (fun n => n < lo ∨ ∃ (j : Nat) (E : Eff), j < m ∧ Es[j]? = some E ∧ n ∈ E.fr) (runT (upto m) 0 Es t0) (runH (upto m) 0 Es h0) a w →
      wpOps P ops Q (List.range' m k) a w := by
  intro k
  induction k with
  | zero =>
    intro m hm a w g
    have hm' : m = ops.size := by omega
    subst hm'
    exact hq a w (g.weaken fun n hn => hn.imp (fun h => h) fun ⟨j, E, _, hj, hE⟩ => List.mem_flatMap.2 ⟨E, List.mem_of_getElem? hj, hE⟩)
  | succ k ih =>
    intro m hm a w g
    rw [List.range'_succ, wpOps_cons]
    have hml : m < Es.length := by omega
    have hE : Es[m]? = some Es[m] := List.getElem?_eq_getElem hml
    refine hok m _ hE B _ _ _ a w Q _ hN g (fun _ _ => rfl) (fun _ _ => rfl) ?_ ?_
    · intro n hn hA
      rcases hA with hA | ⟨j, E, hj, hjE, hnE⟩
      · exact Nat.not_lt.2 (incr_le _ _ hinc n (List.mem_flatMap.2 ⟨_, List.mem_of_getElem? hE, hn⟩)) hA
      · exact absurd (incr_apart hinc _ _ _ _ n hE hjE hn hnE) (by omega)
    · intro a' w' g'
      refine ih (m + 1) (by omega) a' w' ?_
      have ht : ∀ {R V : Type} (W : Eff → R → Option V) (x : R → V), (fun r => (W Es[m] r).getD (run W (upto m) 0 Es x r)) = run W (upto (m + 1)) 0 Es x := by
        intro R V W x; funext r
        refine (run_add W (upto m) (upto (m + 1)) r m Es[m] Es 0 x hE (by simp [upto]) (by simp [upto]) (fun j hj => ?_) (fun j E' _ hlt _ _ => by simp [upto]; omega)).symm
        have : j ≠ m := by omega
        simp only [upto, decide_eq_decide]; omega
      have e1 : Es[m].t (runT (upto m) 0 Es t0) = runT (upto (m + 1)) 0 Es t0 := ht Eff.wT t0
      have e2 : Es[m].h (runH (upto m) 0 Es h0) = runH (upto (m + 1)) 0 Es h0 := ht Eff.wH h0
      rw [e1, e2] at g'
      refine g'.weaken fun n hn => ?_
      rcases hn with (hn | ⟨j, E, hj, h1, h2⟩) | hn
      · exact .inl hn
      · exact .inr ⟨j, E, by omega, h1, h2⟩
      · exact .inr ⟨m, _, by omega, hE, hn⟩

theorem orderly_spec : ∀ (os : List Oper) (Es : List Eff) (acc : List Nat) (pre : List Eff) (preos : List Oper), pre.length = acc.length → preos.length = acc.length →
    orderly os Es acc pre = true →
    (∀ (D : Nat → Bool), (∀ (k : Nat) o, preos.reverse[k]? = some o → D k = true → ∀ e, e ∈ o.after → Region.binds .any e = true → D e.on = true) →
      ∀ (j : Nat) b, acc[j]? = some b → D (acc.length - 1 - j) = true → ∀ k, b.testBit k = true → D k = true) →
    os.length = Es.length ∧ ∀ (i : Nat) o E, os[i]? = some o → Es[i]? = some E →
      (∀ e, e ∈ o.after → Region.binds .any e = true → e.on < acc.length + i) ∧
      ∀ (D : Nat → Bool), (∀ (k : Nat) o, (preos.reverse ++ os)[k]? = some o → D k = true → ∀ e, e ∈ o.after → Region.binds .any e = true → D e.on = true) →
        (∀ e, e ∈ o.after → Region.binds .any e = true → D e.on = true) →
        ∀ (j : Nat) G, j < acc.length + i → (pre.reverse ++ Es)[j]? = some G → clash G E = true → D j = true := by
  intro os
  induction os with
  | nil =>
    intro Es acc pre preos _ _ h _
    cases Es with
    | nil => exact ⟨rfl, fun i o E hi => by simp at hi⟩
    | cons E Es => simp [orderly] at h
  | cons o os ih =>
    intro Es acc pre preos hp hpo h hacc
    cases Es with
    | nil => simp [orderly] at h
    | cons E Es =>
      simp only [orderly, Bool.and_eq_true] at h
      obtain ⟨⟨hin, hpre⟩, hrest⟩ := h
      have hacc' : ∀ (D : Nat → Bool), (∀ (k : Nat) o', (o :: preos).reverse[k]? = some o' → D k = true → ∀ e, e ∈ o'.after → Region.binds .any e = true → D e.on = true) →
          ∀ (j : Nat) b, (aheadOf o.after acc :: acc)[j]? = some b → D ((aheadOf o.after acc :: acc).length - 1 - j) = true → ∀ k, b.testBit k = true → D k = true := by
        intro D hD j b hj hDj k hk
        have hD' : ∀ (k : Nat) o', preos.reverse[k]? = some o' → D k = true → ∀ e, e ∈ o'.after → Region.binds .any e = true → D e.on = true := by
          intro k o' hk
          refine hD k o' ?_
          rw [List.reverse_cons, List.getElem?_append_left (by have := (List.getElem?_eq_some_iff.1 hk).1; exact this)]
          exact hk
        cases j with
        | zero =>
          simp only [List.getElem?_cons_zero, Option.some.injEq] at hj
          subst hj
          refine ahead_spec acc D (hacc D hD') o.after hin ?_ k hk
          refine hD acc.length o ?_ (by simpa using hDj)
          rw [List.reverse_cons, List.getElem?_append_right (by simp [hpo])]
          simp [hpo]
        | succ j =>
          simp only [List.getElem?_cons_succ] at hj
          exact hacc D hD' j b hj (by rw [show acc.length - 1 - j = (aheadOf o.after acc :: acc).length - 1 - (j + 1) from by simp; omega]; exact hDj) k hk
      obtain ⟨hl, hrec⟩ := ih Es (aheadOf o.after acc :: acc) (E :: pre) (o :: preos) (by simp [hp]) (by simp [hpo]) hrest hacc'
      refine ⟨by simp [hl], ?_⟩
      intro i oi Ei hoi hEi
      cases i with
      | succ i =>
        simp only [List.getElem?_cons_succ] at hoi hEi
        obtain ⟨h1, h2⟩ := hrec i oi Ei hoi hEi
        refine ⟨fun e he hb => by have := h1 e he hb; simp at this; omega, ?_⟩
        intro D hD hDi j G hj hG hc
        refine h2 D ?_ hDi j G (by simp; omega) ?_ hc
        · simpa using hD
        · simpa using hG
      | zero =>
        simp only [List.getElem?_cons_zero, Option.some.injEq] at hoi hEi
        subst hoi; subst hEi
        refine ⟨fun e he hb => ?_, ?_⟩
        · have h1 := List.all_eq_true.1 hin e (by simpa using he)
          simpa [hb] using h1
        · intro D hD hDi j G hj hG hc
          have hj' : j < pre.length := by omega
          rw [List.getElem?_append_left (by simpa using hj'), List.getElem?_reverse hj'] at hG
          have h1 := List.all_eq_true.1 hpre (G, pre.length - 1 - j) (List.mem_of_getElem? (i := pre.length - 1 - j) (by simp [hG]))
          simp only [hc, Bool.not_true, Bool.false_or] at h1
          rw [show pre.length - 1 - (pre.length - 1 - j) = j from by omega] at h1
          refine ahead_spec acc D (hacc D fun k o' hk => hD k o' ?_) o.after hin hDi j h1
          rw [List.getElem?_append_left (by have := (List.getElem?_eq_some_iff.1 hk).1; exact this)]
          exact hk

theorem count_set {l : List Nat} {p q : Nat → Bool} {i : Nat} (hi : i ∈ l) (hp : p i = true) (hq : q i = false) (hqp : ∀ j, q j = true → p j = true) : l.countP q + 1 ≤ l.countP p := by
  induction l with
  | nil => cases hi
  | cons x l ih =>
    have mono : l.countP q ≤ l.countP p := List.countP_mono_left fun j _ h => hqp j h
    simp only [List.countP_cons]
    rcases List.mem_cons.1 hi with rfl | hi
    · simp [hp, hq]; exact mono
    · have := ih hi
      cases hqx : q x with
      | true => simp [hqp x hqx]; exact this
      | false => simp; omega

theorem clash_t {E G : Eff} {r : Nat} (h : E.wT r ≠ none) (hr : r ∈ G.rt ∨ G.wT r ≠ none) : clash E G = true := by
  have he : E.wt = some r := by unfold Eff.wT at h; split at h <;> simp_all
  unfold clash
  simp only [he]
  rcases hr with hr | hr
  · simp [hr]
  · have hg : G.wt = some r := by unfold Eff.wT at hr; split at hr <;> simp_all
    simp [hg]
theorem clash_t' {E G : Eff} {r : Nat} (h : E.wT r ≠ none) (hr : r ∈ G.rt ∨ G.wT r ≠ none) : clash G E = true := by
  have he : E.wt = some r := by unfold Eff.wT at h; split at h <;> simp_all
  unfold clash
  simp only [he]
  rcases hr with hr | hr
  · simp [hr]
  · have hg : G.wt = some r := by unfold Eff.wT at hr; split at hr <;> simp_all
    simp [hg]
theorem findH_mem : ∀ (l : List (Nat × HB)) (n : Nat), findH l n ≠ none → ∃ x, x ∈ l ∧ x.1 = n
  | [], n, h => absurd rfl h
  | (m, x) :: l, n, h => by
    unfold findH at h
    split at h
    · rename_i e; exact ⟨(m, x), List.mem_cons_self .., e⟩
    · obtain ⟨y, hy, e⟩ := findH_mem l n h; exact ⟨y, List.mem_cons_of_mem _ hy, e⟩
theorem isWh_of : ∀ (l : List (Nat × HB)) (n : Nat), findH l n ≠ none → isWh n l = true
  | [], n, h => absurd rfl h
  | (m, x) :: l, n, h => by
    unfold findH at h
    simp only [isWh, Bool.or_eq_true, beq_iff_eq]
    split at h
    · exact .inl ‹_›
    · exact .inr (isWh_of l n h)
theorem clash_h {E G : Eff} {n : Nat} (h : E.wH n ≠ none) (hr : n ∈ G.rh ∨ G.wH n ≠ none) : clash E G = true := by
  obtain ⟨x, hx, rfl⟩ := findH_mem _ _ h
  have : (E.wh.any fun x => G.rh.contains x.1 || isWh x.1 G.wh) = true := by
    refine List.any_eq_true.2 ⟨x, hx, ?_⟩
    rcases hr with hr | hr
    · simp [hr]
    · simp [isWh_of _ _ hr]
  unfold clash; rw [this]; simp only [Bool.or_true, Bool.true_or]
theorem clash_h' {E G : Eff} {n : Nat} (h : E.wH n ≠ none) (hr : n ∈ G.rh ∨ G.wH n ≠ none) : clash G E = true := by
  obtain ⟨x, hx, rfl⟩ := findH_mem _ _ h
  rcases hr with hr | hr
  · have : (E.wh.any fun x => G.rh.contains x.1) = true := List.any_eq_true.2 ⟨x, hx, by simp [hr]⟩
    unfold clash; rw [this]; simp only [Bool.or_true]
  · obtain ⟨y, hy, e⟩ := findH_mem _ _ hr
    have : (G.wh.any fun x => E.rh.contains x.1 || isWh x.1 E.wh) = true := List.any_eq_true.2 ⟨y, hy, by rw [e, isWh_of _ _ h]; simp⟩
    unfold clash; rw [this]; simp only [Bool.or_true, Bool.true_or]

/-- A region in whatever order its edges allow. -/
theorem region_any {P : Program} {id : Nat} {ops : Array Oper} {N : Nat} {B : Base} {Q : Exit → Act → World → Prop} {a : Act} {w : World} (hm : P.follows .mixedOrders = true) (hN : B.N = N) (Es : List Eff) (lo : Nat)
    (t0 : Nat → AV) (h0 : Nat → HB) (hord : orderly ops.toList Es [] [] = true) (hinc : incr lo (Es.flatMap Eff.fr) = true)
    (hok : ∀ (i : Nat) E, Es[i]? = some E → OpOk P ops N i (runT (upto i) 0 Es t0) (runH (upto i) 0 Es h0) E)
    (hq : ∀ a' w', Ga B (fun n => n < lo ∨ n ∈ Es.flatMap Eff.fr) (runT (upto ops.size) 0 Es t0) (runH (upto ops.size) 0 Es h0) a' w' → Q .normal a' w')
    (g : Ga B (· < lo) t0 h0 a w) : (Code.region id ops true).wp P Q a w := by
  obtain ⟨hlen, hspec⟩ := orderly_spec ops.toList Es [] [] [] rfl rfl hord (fun D _ j b hj => by simp at hj)
  simp only [List.length_nil, Nat.zero_add, List.reverse_nil, List.nil_append] at hspec
  have hlen' : Es.length = ops.size := by simpa using hlen.symm
  refine wp_region_any hm ?_
  have key : ∀ (fuel : Nat) (listed : Array Bool) (a : Act) (w : World), listed.size = ops.size →
      (∀ (k : Nat) o, ops.toList[k]? = some o → listed.getD k false = true → ∀ e, e ∈ o.after → Region.binds .any e = true → listed.getD e.on false = true) →
      (List.range ops.size).countP (fun j => !listed.getD j true) ≤ fuel →
      Ga B (fun n => n < lo ∨ ∃ (j : Nat) (E : Eff), listed.getD j false = true ∧ Es[j]? = some E ∧ n ∈ E.fr) (runT (fun j => listed.getD j false) 0 Es t0) (runH (fun j => listed.getD j false) 0 Es h0) a w →
      wpAny P .any ops Q fuel listed a w := by
    intro fuel
    have hin : ∀ (listed : Array Bool) (j : Nat), listed.size = ops.size → j < ops.size → listed.getD j true = listed.getD j false := by
      intro listed j hs hj
      simp [Array.getD, hs, hj]
    have hdone : ∀ (listed : Array Bool), listed.size = ops.size → Region.ready .any ops listed = [] → ∀ j, j < ops.size → listed.getD j false = true := by
      intro listed hs hr j
      induction j using Nat.strongRecOn with
      | _ j ih =>
        intro hj
        cases hd : listed.getD j false with
        | true => rfl
        | false =>
          exfalso
          have hoj : ops.toList[j]? = some ops.toList[j] := List.getElem?_eq_getElem (by simpa using hj)
          have hEj : Es[j]? = some (Es[j]'(by omega)) := List.getElem?_eq_getElem (by omega)
          have : j ∈ Region.ready .any ops listed := mem_ready.2 ⟨by rw [hin listed j hs hj]; exact hd, ops.toList[j], by rw [← Array.getElem?_toList]; exact hoj, fun e he hb => by
            have hlt := (hspec j _ _ hoj hEj).1 e he hb
            exact ih e.on hlt (by omega)⟩
          rw [hr] at this; cases this
    have hend : ∀ (listed : Array Bool) a w, listed.size = ops.size → Region.ready .any ops listed = [] →
        Ga B (fun n => n < lo ∨ ∃ (j : Nat) (E : Eff), listed.getD j false = true ∧ Es[j]? = some E ∧ n ∈ E.fr) (runT (fun j => listed.getD j false) 0 Es t0) (runH (fun j => listed.getD j false) 0 Es h0) a w → Q .normal a w := by
      intro listed a w hs hr g
      have hall := hdone listed hs hr
      have ht : ∀ {R V : Type} (W : Eff → R → Option V) (x : R → V), run W (fun j => listed.getD j false) 0 Es x = run W (upto ops.size) 0 Es x := by
        intro R V W x; funext r
        refine run_congr W _ _ r Es 0 x x rfl fun j E hj _ => ?_
        have hjl : j < ops.size := by have := (List.getElem?_eq_some_iff.1 hj).1; omega
        rw [Nat.zero_add]
        simp only [hall j hjl, upto, hjl, decide_true]
      have e1 : runT (fun j => listed.getD j false) 0 Es t0 = runT (upto ops.size) 0 Es t0 := ht Eff.wT t0
      have e2 : runH (fun j => listed.getD j false) 0 Es h0 = runH (upto ops.size) 0 Es h0 := ht Eff.wH h0
      rw [e1, e2] at g
      exact hq a w (g.weaken fun n hn => hn.imp (fun h => h) fun ⟨j, E, _, hj, hE⟩ => List.mem_flatMap.2 ⟨E, List.mem_of_getElem? hj, hE⟩)
    induction fuel with
    | zero =>
      intro listed a w hs hcl hcount g
      have hr : Region.ready .any ops listed = [] := by
        refine List.eq_nil_iff_forall_not_mem.2 fun j hj => ?_
        obtain ⟨hju, o, ho, _⟩ := mem_ready.1 hj
        have hjl : j < ops.size := (Array.getElem?_eq_some_iff.1 ho).1
        have := List.countP_pos_iff (p := fun j => !listed.getD j true) |>.2 ⟨j, List.mem_range.2 hjl, by simp [hju]⟩
        omega
      exact ⟨hr, hend listed a w hs hr g⟩
    | succ fuel ih =>
      intro listed a w hs hcl hcount g
      refine ⟨fun hr => hend listed a w hs hr g, fun i hi => ?_⟩
      obtain ⟨hiu, o, ho, hall⟩ := mem_ready.1 hi
      have hil : i < ops.size := (Array.getElem?_eq_some_iff.1 ho).1
      have hD : listed.getD i false = false := by rw [← hin listed i hs hil]; exact hiu
      have hoi : ops.toList[i]? = some o := by rw [Array.getElem?_toList]; exact ho
      have hE : Es[i]? = some (Es[i]'(by omega)) := List.getElem?_eq_getElem (by omega)
      -- whoever clashes with i is done just if he stands ahead of it
      have hbef : ∀ (m : Nat) G, m < i → Es[m]? = some G → clash G (Es[i]'(by omega)) = true → listed.getD m false = true := fun m G hm hG hc =>
        (hspec i o _ hoi hE).2 (fun j => listed.getD j false) hcl hall m G hm hG hc
      have haft : ∀ (m : Nat) G, i < m → Es[m]? = some G → clash (Es[i]'(by omega)) G = true → listed.getD m false = false := by
        intro m G hm hG hc
        cases hd : listed.getD m false with
        | false => rfl
        | true =>
          exfalso
          have hml : m < ops.size := by have := (List.getElem?_eq_some_iff.1 hG).1; omega
          have hom : ops.toList[m]? = some ops.toList[m] := List.getElem?_eq_getElem (by simpa using hml)
          have := (hspec m _ _ hom hG).2 (fun j => listed.getD j false) hcl (hcl m _ hom hd) i _ hm hE hc
          simp only [hD] at this
          cases this
      have hread : ∀ {R V : Type} (W : Eff → R → Option V) (x : R → V) (r : R), (∀ (m : Nat) G, Es[m]? = some G → W G r ≠ none → m ≠ i → clash G (Es[i]'(by omega)) = true ∧ clash (Es[i]'(by omega)) G = true) →
          run W (fun j => listed.getD j false) 0 Es x r = run W (upto i) 0 Es x r := by
        intro R V W x r hcl'
        refine run_congr W _ _ r Es 0 x x rfl fun m G hm hw => ?_
        rw [Nat.zero_add]
        by_cases hmi : m = i
        · subst hmi; simp only [hD, upto, Nat.lt_irrefl, decide_false]
        · obtain ⟨c1, c2⟩ := hcl' m G hm hw hmi
          rcases Nat.lt_or_ge m i with hlt | hge
          · simp only [hbef m G hlt hm c1, upto, hlt, decide_true]
          · simp only [haft m G (by omega) hm c2, upto, show ¬ m < i from by omega, decide_false]
      refine hok i _ hE B _ _ _ a w Q _ hN g ?_ ?_ ?_ ?_
      · intro r hr
        exact hread Eff.wT t0 r fun m G _ hw _ => ⟨clash_t hw (.inl hr), clash_t' hw (.inl hr)⟩
      · intro n hn
        exact hread Eff.wH h0 n fun m G _ hw _ => ⟨clash_h hw (.inl hn), clash_h' hw (.inl hn)⟩
      · intro n hn hA
        rcases hA with hA | ⟨j, G, hj, hjG, hnG⟩
        · exact Nat.not_lt.2 (incr_le _ _ hinc n (List.mem_flatMap.2 ⟨_, List.mem_of_getElem? hE, hn⟩)) hA
        · have := incr_apart hinc _ _ _ _ n hE hjG hn hnG
          subst this
          rw [hD] at hj; cases hj
      · intro a' w' g'
        have hset : ∀ j, j ≠ i → (listed.setIfInBounds i true).getD j false = listed.getD j false := fun j hj => getD_set_ne false (Ne.symm hj)
        have hseti : (listed.setIfInBounds i true).getD i false = true := by simp [hs, hil]
        refine ih (listed.setIfInBounds i true) a' w' (by simp [hs]) ?_ ?_ ?_
        · intro k o' hk hkd e he hb
          by_cases hki : k = i
          · subst hki
            rw [hoi] at hk; injection hk with hk; subst hk
            exact getD_set_true (hall e he hb)
          · rw [hset k hki] at hkd
            exact getD_set_true (hcl k o' hk hkd e he hb)
        · have := count_set (l := List.range ops.size) (p := fun j => !listed.getD j true) (q := fun j => !(listed.setIfInBounds i true).getD j true) (i := i) (List.mem_range.2 hil) (by simp [hiu])
            (by rw [hin _ _ (by simp [hs]) hil, hseti]; rfl) (fun j hj => by
              by_cases hji : j = i
              · subst hji; simp [hiu]
              · rw [getD_set_ne true (Ne.symm hji)] at hj; exact hj)
          omega
        · have hadd : ∀ {R V : Type} (W : Eff → R → Option V) (x : R → V), (∀ (m : Nat) G r, Es[m]? = some G → W (Es[i]'(by omega)) r ≠ none → W G r ≠ none → clash (Es[i]'(by omega)) G = true) →
              (fun r => (W (Es[i]'(by omega)) r).getD (run W (fun j => listed.getD j false) 0 Es x r)) = run W (fun j => (listed.setIfInBounds i true).getD j false) 0 Es x := by
            intro R V W x hcl'; funext r
            refine (run_add W (fun j => listed.getD j false) (fun j => (listed.setIfInBounds i true).getD j false) r i _ Es 0 x hE (by rw [Nat.zero_add]; exact hD) (by rw [Nat.zero_add]; exact hseti)
              (fun j hj => hset j (by omega)) (fun m G hG hlt h1 h2 => ?_)).symm
            rw [Nat.zero_add]
            exact haft m G hlt hG (hcl' m G r hG h1 h2)
          have e1 : Eff.t (Es[i]'(by omega)) (runT (fun j => listed.getD j false) 0 Es t0) = runT (fun j => (listed.setIfInBounds i true).getD j false) 0 Es t0 :=
            hadd Eff.wT t0 fun m G r _ h1 h2 => clash_t h1 (.inr h2)
          have e2 : Eff.h (Es[i]'(by omega)) (runH (fun j => listed.getD j false) 0 Es h0) = runH (fun j => (listed.setIfInBounds i true).getD j false) 0 Es h0 :=
            hadd Eff.wH h0 fun m G r _ h1 h2 => clash_h h1 (.inr h2)
          rw [e1, e2] at g'
          refine g'.weaken fun n hn => ?_
          rcases hn with (hn | ⟨j, G, hj, h1, h2⟩) | hn
          · exact .inl hn
          · exact .inr ⟨j, G, getD_set_true hj, h1, h2⟩
          · exact .inr ⟨i, _, hseti, hE, hn⟩
  refine key ops.size (Array.replicate ops.size false) a _ (by simp) ?_ ?_ ?_
  · intro k o _ hk; simp [Array.getD] at hk
  · exact Nat.le_trans (List.countP_le_length) (by simp)
  · have hz : ∀ {R V : Type} (W : Eff → R → Option V) (x : R → V), x = run W (fun j => (Array.replicate ops.size false).getD j false) 0 Es x := by
      intro R V W x; funext r
      have : ∀ (Es : List Eff) (i : Nat) (y : R → V), run W (fun _ => false) i Es y r = y r := by
        intro Es
        induction Es with
        | nil => intro i y; rfl
        | cons E Es ih => intro i y; simp only [run]; rw [ih]; simp
      rw [show (fun j => (Array.replicate ops.size false).getD j false) = (fun _ => false) from by funext j; simp [Array.getD]]
      exact (this Es 0 x).symm
    have e1 : t0 = runT (fun j => (Array.replicate ops.size false).getD j false) 0 Es t0 := hz Eff.wT t0
    have e2 : h0 = runH (fun j => (Array.replicate ops.size false).getD j false) 0 Es h0 := hz Eff.wH h0
    have g' := g.drew
    rw [e1, e2] at g'
    exact g'.weaken fun n hn => .inl hn
end Go.Ab
