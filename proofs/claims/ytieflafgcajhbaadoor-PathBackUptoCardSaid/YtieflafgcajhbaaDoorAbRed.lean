/- The abstract layer, 11: states told anew: slots left out, names changed. -/
import Derived.Test.YtieflafgcajhbaaDoorAbFin
set_option linter.unusedSimpArgs false
set_option linter.unusedVariables false
namespace Go.Ab

/-- Names below nh stay; others go by the list. -/
def Maps (L : List (Nat × Nat)) (nh n n' : Nat) : Prop := (n < nh ∧ n' = n) ∨ (n, n') ∈ L

def RenV (L : List (Nat × Nat)) (nh : Nat) (x y : AV) : Prop :=
  ∀ (F : Still) (ρ ρ' : Places) (v : Value), (∀ n n', Maps L nh n n' → ∀ c, ρ n = some c → ρ' n' = some c) → M F ρ v x → M F ρ' v y
def RenVL (L : List (Nat × Nat)) (nh : Nat) (xs ys : List AV) : Prop := xs.length = ys.length ∧ ∀ (i : Nat) x y, xs[i]? = some x → ys[i]? = some y → RenV L nh x y
def RenRows (L : List (Nat × Nat)) (nh : Nat) (xs ys : List (List AV)) : Prop := xs.length = ys.length ∧ ∀ (i : Nat) x y, xs[i]? = some x → ys[i]? = some y → RenVL L nh x y

section
variable {L : List (Nat × Nat)} {nh : Nat}
theorem ren_junk {x : AV} : RenV L nh x .junk := fun F ρ ρ' v _ _ => .junk _ v
theorem ren_pure {x : AV} (hx : x.pure = true) : RenV L nh x x := fun F ρ ρ' v _ hm => hm.moved ρ' hx
theorem ren_os {n n' off len : Nat} (hn : Maps L nh n n') : RenV L nh (.os n off len) (.os n' off len) := fun F ρ ρ' v h hm => by
  cases hm with
  | os _ n b k cap off len a hρ hl ha => exact .os _ n' b k cap off len a (h n n' hn _ hρ) hl ha
  | osn _ n a hρ => exact .osn _ n' a (h n n' hn _ hρ)
theorem ren_op {n n' i j : Nat} (hn : Maps L nh n n') : RenV L nh (.op n i j) (.op n' i j) := fun F ρ ρ' v h hm => by
  cases hm with | op _ n b k cap i j hρ => exact .op _ n' b k cap i j (h n n' hn _ hρ)
theorem renl_nil : RenVL L nh [] [] := ⟨rfl, fun i x y hx => by cases i <;> cases hx⟩
theorem renl_cons {x y : AV} {xs ys : List AV} (hx : RenV L nh x y) (hl : RenVL L nh xs ys) : RenVL L nh (x :: xs) (y :: ys) := by
  refine ⟨by simp [hl.1], fun i a b ha hb => ?_⟩
  cases i with
  | zero => simp at ha hb; subst ha; subst hb; exact hx
  | succ i => exact hl.2 i a b (by simpa using ha) (by simpa using hb)
theorem renl_pure {xs : List AV} (hx : AV.pure.pureL xs = true) : RenVL L nh xs xs :=
  ⟨rfl, fun i x y h1 h2 => by rw [h1] at h2; injection h2 with h2; subst h2; exact ren_pure (pureL_mem hx h1)⟩
theorem ren_agg {xs ys : List AV} (hl : RenVL L nh xs ys) : RenV L nh (.agg xs) (.agg ys) := fun F ρ ρ' v h hm => by
  obtain ⟨vs, rfl, h1, h2⟩ := hm.agg_inv
  refine .agg _ vs ys (by rw [h1, hl.1]) fun i u y hu hy => ?_
  have hi : i < xs.length := by rw [hl.1]; exact (List.getElem?_eq_some_iff.1 hy).1
  have hx : xs[i]? = some xs[i] := List.getElem?_eq_getElem hi
  exact hl.2 i _ y hx hy F ρ ρ' u h (h2 i u _ hu hx)
theorem renrows_pure {rows : List (List AV)} (hr : ∀ row, row ∈ rows → AV.pure.pureL row = true) : RenRows L nh rows rows :=
  ⟨rfl, fun i x y h1 h2 => by rw [h1] at h2; injection h2 with h2; subst h2; exact renl_pure (hr x (List.mem_of_getElem? h1))⟩
theorem renrows_map {α : Type} {f : α → List AV} {l : List α} (hf : ∀ a, AV.pure.pureL (f a) = true) : RenRows L nh (l.map f) (l.map f) :=
  renrows_pure fun row hr => by obtain ⟨a, _, rfl⟩ := List.mem_map.1 hr; exact hf a
theorem renrows_nil : RenRows L nh [] [] := ⟨rfl, fun i x y hx => by cases i <;> cases hx⟩
theorem renrows_cons {x y : List AV} {xs ys : List (List AV)} (hx : RenVL L nh x y) (hl : RenRows L nh xs ys) : RenRows L nh (x :: xs) (y :: ys) := by
  refine ⟨by simp [hl.1], fun i a b ha hb => ?_⟩
  cases i with
  | zero => simp at ha hb; subst ha; subst hb; exact hx
  | succ i => exact hl.2 i a b (by simpa using ha) (by simpa using hb)
end

def RenHB (L : List (Nat × Nat)) (nh : Nat) : HB → HB → Prop
  | .own ex k rows, .own ex' k' rows' => (ex' = true → ex = true) ∧ k = k' ∧ RenRows L nh rows rows'
  | .fz rows, .fz rows' => rows = rows'
  | .mp l, .mp l' => l.length = l'.length ∧ ∀ (i : Nat) x y, l[i]? = some x → l'[i]? = some y → x.1 = y.1 ∧ RenV L nh x.2 y.2
  | _, .dead => True
  | _, _ => False

theorem MapAt.ren {F : Still} {ρ ρ' : Places} {L : List (Nat × Nat)} {nh : Nat} {es : Array MapEntry} {l l' : List (List UInt8 × AV)} (hsub : ∀ n n', Maps L nh n n' → ∀ c, ρ n = some c → ρ' n' = some c) (h : MapAt F ρ es l) (hl : l.length = l'.length)
    (hr : ∀ (i : Nat) x y, l[i]? = some x → l'[i]? = some y → x.1 = y.1 ∧ RenV L nh x.2 y.2) : MapAt F ρ' es l' := by
  refine ⟨h.1.trans hl, fun i e y he hy => ?_⟩
  have hi : i < l.length := by rw [hl]; exact (List.getElem?_eq_some_iff.1 hy).1
  have hx := List.getElem?_eq_getElem hi
  obtain ⟨h1, h2⟩ := h.2 i e _ he hx
  obtain ⟨h3, h4⟩ := hr i _ y hx hy
  exact ⟨by rw [← h3]; exact h1, h4 F ρ ρ' _ hsub h2⟩

/-- The slots that are kept. -/
def TsOk (L : List (Nat × Nat)) (nh : Nat) (σ : St) : List (Nat × AV) → Prop
  | [] => True
  | (i, y) :: l => RenV L nh (getT σ.ts i) y ∧ TsOk L nh σ l
/-- The memory that is kept. -/
def HsOk (L : List (Nat × Nat)) (nh : Nat) (σ : St) : List (Nat × HB) → Prop
  | [] => True
  | (n', y) :: l => (∃ n, Maps L nh n n' ∧ RenHB L nh (getH σ.hs n) y) ∧ HsOk L nh σ l

def listOk (nh nx : Nat) : List (Nat × Nat) → Bool
  | [] => decide (nh ≤ nx)
  | (n, n') :: l => decide (nh ≤ n) && decide (nh ≤ n') && decide (n' < nx) && l.all (fun x => x.1 != n && x.2 != n') && listOk nh nx l

theorem listOk_spec {nh nx : Nat} : ∀ {l : List (Nat × Nat)}, listOk nh nx l = true → nh ≤ nx ∧ (∀ n n', (n, n') ∈ l → nh ≤ n ∧ nh ≤ n' ∧ n' < nx) ∧ (∀ n m n' m', (n, n') ∈ l → (m, m') ∈ l → (n = m ↔ n' = m'))
  | [], h => ⟨by simpa [listOk] using h, (fun n n' h => by cases h), (fun n m n' m' h => by cases h)⟩
  | (a, a') :: l, h => by
    simp only [listOk, Bool.and_eq_true, decide_eq_true_eq] at h
    obtain ⟨⟨⟨⟨h1, h2⟩, h3⟩, h4⟩, h5⟩ := h
    obtain ⟨i1, i2, i3⟩ := listOk_spec h5
    have ne : ∀ n n', (n, n') ∈ l → n ≠ a ∧ n' ≠ a' := fun n n' hm => by
      have := List.all_eq_true.1 h4 (n, n') hm
      simpa using this
    refine ⟨i1, fun n n' hm => ?_, fun n m n' m' hn hm => ?_⟩
    · rcases List.mem_cons.1 hm with e | hm
      · injection e with e1 e2; subst e1; subst e2; exact ⟨h1, h2, h3⟩
      · exact i2 n n' hm
    · rcases List.mem_cons.1 hn with e | hn2
      · rcases List.mem_cons.1 hm with f | hm2
        · injection e with e1 e2; injection f with f1 f2; subst e1; subst e2; subst f1; subst f2; simp
        · injection e with e1 e2; subst e1; subst e2
          have := ne m m' hm2
          exact ⟨fun h => absurd h.symm this.1, fun h => absurd h.symm this.2⟩
      · rcases List.mem_cons.1 hm with f | hm2
        · injection f with f1 f2; subst f1; subst f2
          have := ne n n' hn2
          exact ⟨fun h => absurd h this.1, fun h => absurd h this.2⟩
        · exact i3 n m n' m' hn2 hm2

theorem getT_cons (j : Nat) (y : AV) (l : List (Nat × AV)) (i : Nat) : getT ((j, y) :: l) i = if j = i then y else getT l i := rfl
theorem getH_cons (j : Nat) (y : HB) (l : List (Nat × HB)) (i : Nat) : getH ((j, y) :: l) i = if j = i then y else getH l i := by
  show (if j = i then some y else findH l i).getD .dead = _
  split <;> rfl
theorem tsok_get {L : List (Nat × Nat)} {nh : Nat} {σ : St} : ∀ {l : List (Nat × AV)}, TsOk L nh σ l → ∀ i, RenV L nh (getT σ.ts i) (getT l i)
  | [], _, i => ren_junk
  | (j, y) :: l, h, i => by
    rw [getT_cons]
    by_cases e : j = i
    · rw [if_pos e]; exact e ▸ h.1
    · rw [if_neg e]; exact tsok_get h.2 i
theorem hsok_get {L : List (Nat × Nat)} {nh : Nat} {σ : St} : ∀ {l : List (Nat × HB)}, HsOk L nh σ l → ∀ n', getH l n' = .dead ∨ ∃ n, Maps L nh n n' ∧ RenHB L nh (getH σ.hs n) (getH l n')
  | [], _, n' => .inl rfl
  | (m, y) :: l, h, n' => by
    have := hsok_get h.2 n'
    rw [getH_cons]
    by_cases e : m = n'
    · rw [if_pos e]; exact .inr (e ▸ h.1)
    · rw [if_neg e]; exact this

theorem hp_ren {C : Cx} {σ τ : St} {B : Base} {w : World} {F : Still} {ρ : Places} (L : List (Nat × Nat)) (hL : listOk C.nh τ.nx L = true) (hh : HsOk L C.nh σ τ.hs) (hB : ∀ n, B.ρ0 n ≠ none → n < C.nh) (hp : Hp B (· < σ.nx) (getH σ.hs) F ρ w) :
    ∃ ρ', Hp B (· < τ.nx) (getH τ.hs) F ρ' w ∧ ∀ n n', Maps L C.nh n n' → ∀ c, ρ n = some c → ρ' n' = some c := by
  obtain ⟨k1, k2, k3⟩ := listOk_spec hL
  classical
  let ρ' : Places := fun n' => if n' < C.nh then ρ n' else if h : ∃ n, (n, n') ∈ L then ρ (Classical.choose h) else none
  have hmap : ∀ n n', Maps L C.nh n n' → ρ' n' = ρ n := by
    intro n n' hm
    rcases hm with ⟨h1, rfl⟩ | h1
    · simp only [ρ', h1, if_true]
    · obtain ⟨_, h2, _⟩ := k2 n n' h1
      have hex : ∃ n, (n, n') ∈ L := ⟨n, h1⟩
      simp only [ρ', show ¬ n' < C.nh from by omega, if_false]
      rw [dif_pos hex, (k3 _ n n' n' (Classical.choose_spec hex) h1).2 rfl]
  have hsub : ∀ n n', Maps L C.nh n n' → ∀ c, ρ n = some c → ρ' n' = some c := fun n n' hm c hc => (hmap n n' hm).trans hc
  have hinj : ∀ n n' m', Maps L C.nh n n' → Maps L C.nh n m' → n' = m' := by
    intro n n' m' h1 h2
    rcases h1 with ⟨a1, rfl⟩ | a1 <;> rcases h2 with ⟨b1, rfl⟩ | b1
    · rfl
    · have := (k2 _ _ b1).1; omega
    · have := (k2 _ _ a1).1; omega
    · exact (k3 n n n' m' a1 b1).1 rfl
  have hrows : ∀ {c : Array Value} {k : Nat} {rows rows' : List (List AV)}, RowsAt F ρ c k rows → RenRows L C.nh rows rows' → RowsAt F ρ' c k rows' := by
    intro c k rows rows' hR hr
    have hget : ∀ (i : Nat) row', rows'[i]? = some row' → ∃ row, rows[i]? = some row ∧ RenVL L C.nh row row' := fun i row' hi => by
      have hil : i < rows.length := by rw [hr.1]; exact (List.getElem?_eq_some_iff.1 hi).1
      exact ⟨_, List.getElem?_eq_getElem hil, hr.2 i _ _ (List.getElem?_eq_getElem hil) hi⟩
    refine ⟨fun row' hrow' => ?_, fun i j row' y v hi hj hv => ?_⟩
    · obtain ⟨i, hi⟩ := List.mem_iff_getElem?.1 hrow'
      obtain ⟨row, h1, h2⟩ := hget i row' hi
      rw [← h2.1]; exact hR.1 row (List.mem_of_getElem? h1)
    · obtain ⟨row, h1, h2⟩ := hget i row' hi
      have hj' : j < row.length := by rw [h2.1]; exact (List.getElem?_eq_some_iff.1 hj).1
      have hx : row[j]? = some row[j] := List.getElem?_eq_getElem hj'
      exact h2.2 j _ y hx hj F ρ ρ' v hsub (hR.2 i j row _ v h1 hx hv)
  -- where a name of ours came from
  have hfrom : ∀ n', (getH τ.hs n').isOwn = true → ∃ n, Maps L C.nh n n' ∧ (getH σ.hs n).isOwn = true := by
    intro n' ho
    rcases hsok_get hh n' with h1 | ⟨n, h1, h2⟩
    · rw [h1] at ho; cases ho
    · refine ⟨n, h1, ?_⟩
      cases e1 : getH τ.hs n' with
      | own ex k rows =>
        rw [e1] at h2
        cases e2 : getH σ.hs n with
        | own _ _ _ => rfl
        | dead => rw [e2] at h2; exact h2.elim
        | fz _ => rw [e2] at h2; exact h2.elim
        | mp _ => rw [e2] at h2; exact h2.elim
      | mp l =>
        rw [e1] at h2
        cases e2 : getH σ.hs n with
        | mp _ => rfl
        | own _ _ _ => rw [e2] at h2; exact h2.elim
        | dead => rw [e2] at h2; exact h2.elim
        | fz _ => rw [e2] at h2; exact h2.elim
      | dead => rw [e1] at ho; cases ho
      | fz _ => rw [e1] at ho; cases ho
  refine ⟨ρ', ?_, hsub⟩
  refine { kept := hp.kept, agree := hp.agree, grow := hp.grow, fresh := hp.fresh, names := fun n c hn => ?_, dom := fun n' hn => ?_, own := fun n' => ?_, new := fun n' b c ho hn => ?_, sep := fun n' m' b c c' hne ho ho' hn hn' => ?_ }
  · have := hB n (by rw [hn]; simp)
    simp only [ρ', this, if_true]
    exact hp.names n c hn
  · show n' < τ.nx
    simp only [ρ'] at hn
    split at hn
    · omega
    · split at hn
      · rename_i hex
        obtain ⟨n, hm⟩ := hex
        exact (k2 n n' hm).2.2
      · exact absurd rfl hn
  · rcases hsok_get hh n' with h1 | ⟨n, h1, h2⟩
    · rw [h1]; trivial
    · have h3 := hp.own n
      cases e1 : getH τ.hs n' with
      | dead => trivial
      | own ex k rows =>
        rw [e1] at h2
        cases e2 : getH σ.hs n with
        | own ex' k' rows' =>
          rw [e2] at h2 h3
          obtain ⟨hex, rfl, hr⟩ := h2
          rcases h3 with ⟨h4, h5⟩ | ⟨b, cap, c, e, h4, h5, h6, h7, h8, h9⟩
          · refine .inl ⟨by rw [hmap n n' h1]; exact h4, ?_⟩
            subst h5
            exact List.eq_nil_of_length_eq_zero (by rw [← hr.1]; rfl)
          · exact .inr ⟨b, cap, c, e, by rw [hmap n n' h1]; exact h4, h5, h6, by rw [← hr.1]; exact h7, fun h => by rw [← hr.1]; exact h8 (hex h), hrows h9 hr⟩
        | dead => rw [e2] at h2; exact h2.elim
        | fz _ => rw [e2] at h2; exact h2.elim
        | mp _ => rw [e2] at h2; exact h2.elim
      | mp l =>
        rw [e1] at h2
        cases e2 : getH σ.hs n with
        | mp l0 =>
          rw [e2] at h2 h3
          obtain ⟨b, es, clock, h4, h5, h6⟩ := h3
          exact ⟨b, es, clock, by rw [hmap n n' h1]; exact h4, h5, h6.ren hsub h2.1 h2.2⟩
        | dead => rw [e2] at h2; exact h2.elim
        | fz _ => rw [e2] at h2; exact h2.elim
        | own _ _ _ => rw [e2] at h2; exact h2.elim
      | fz rows =>
        rw [e1] at h2
        cases e2 : getH σ.hs n with
        | fz rows' =>
          rw [e2] at h2 h3
          have h2 : rows' = rows := h2
          subst h2
          rcases h3 with ⟨h4, h5⟩ | ⟨b, k, cap, c, e, fr, h4, h5⟩
          · exact .inl ⟨by rw [hmap n n' h1]; exact h4, h5⟩
          · exact .inr ⟨b, k, cap, c, e, fr, by rw [hmap n n' h1]; exact h4, h5⟩
        | dead => rw [e2] at h2; exact h2.elim
        | own _ _ _ => rw [e2] at h2; exact h2.elim
        | mp _ => rw [e2] at h2; exact h2.elim
  · obtain ⟨n, h1, h2⟩ := hfrom n' ho
    rw [hmap n n' h1] at hn
    exact hp.new n b c h2 hn
  · obtain ⟨n, h1, h2⟩ := hfrom n' ho
    obtain ⟨m, h3, h4⟩ := hfrom m' ho'
    rw [hmap n n' h1] at hn
    rw [hmap m m' h3] at hn'
    exact hp.sep n m b c c' (fun e => hne (hinj n n' m' h1 (e ▸ h3))) h2 h4 hn hn'

theorem red_ren {C : Cx} {σ τ : St} (L : List (Nat × Nat)) (hL : listOk C.nh τ.nx L = true) (ht : TsOk L C.nh σ τ.ts) (hh : HsOk L C.nh σ τ.hs) : Red C σ τ := by
  intro B a w hB ⟨g1, g2, F, ρ, hp, g4⟩
  obtain ⟨ρ', hp', hsub⟩ := hp_ren L hL hh hB hp
  exact ⟨g1, g2, F, ρ', hp', fun i => tsok_get ht i F ρ ρ' _ hsub (g4 i)⟩

/-- Plain slots alone are kept. -/
theorem red_pure {C : Cx} {σ : St} {ts : List (Nat × AV)} (ht : TsOk [] C.nh σ ts) : Red C σ ⟨ts, [], C.nh⟩ := red_ren [] (by simp [listOk]) ht trivial
/-- Memory of ours that is written no more from here on. -/
theorem red_freeze {C : Cx} {ts : List (Nat × AV)} {hs : List (Nat × HB)} {nx : Nat} (n : Nat) {ex : Bool} {k : Nat} {rows : List (List AV)} (hn : getH hs n = .own ex k rows) (hr : ∀ row, row ∈ rows → AV.pure.pureL row = true) : Red C ⟨ts, hs, nx⟩ ⟨ts, (n, .fz rows) :: hs, nx⟩ := by
  intro B a w hB ⟨g1, g2, F, ρ, hp, g4⟩
  classical
  let F' : Still := fun b => if ∃ c, ρ n = some (some (b, c)) then w.heap[b]? else F b
  have ho := hp.own n
  have hn' : (getH hs n).isOwn = true := by rw [hn]; rfl
  have hle : F.le F' := fun b o hb => by
    simp only [F']
    split
    · rename_i hex
      obtain ⟨c, hc⟩ := hex
      rw [(hp.new n b c hn' hc).1] at hb; cases hb
    · exact hb
  refine ⟨g1, g2, F', ρ, ?_, fun i => (g4 i).mono hle (Places.le_refl ρ)⟩
  refine { kept := hp.kept, agree := fun b o hb => ?_, grow := fun b o hb => hle b o (hp.grow b o hb), fresh := fun b hb => ?_, names := hp.names, dom := hp.dom, own := fun m => ?_, new := fun m b c hm hρ => ?_, sep := fun m m' b c c' hne hm hm' h1 h2 => ?_ }
  · simp only [F'] at hb
    split at hb
    · exact hb
    · exact hp.agree b o hb
  · simp only [F'] at hb
    split at hb
    · rename_i hex
      obtain ⟨c, hc⟩ := hex
      exact .inr (hp.new n b c hn' hc).2
    · exact hp.fresh b hb
  · show OwnAt F' ρ w m (getH ((n, .fz rows) :: hs) m)
    rw [getH_cons]
    by_cases hnm : n = m
    · subst hnm
      rw [if_pos rfl]
      rw [hn] at ho
      rcases ho with ho | ⟨b, cap, c, e, h1, h2, h3, h4, h5, h6⟩
      · exact .inl ho
      · refine .inr ⟨b, k, cap, c, e, (0, 0), h1, ?_, by rw [h3]; exact Nat.mul_le_mul_right _ h4, h4, h6.1, fun i j row x v a1 a2 a3 => ((h6.2 i j row x v a1 a2 a3).moved _ (pureL_mem (hr row (List.mem_of_getElem? a1)) a2)).mono hle (Places.le_refl _)⟩
        simp only [F']
        rw [if_pos ⟨_, h1⟩]; exact h2
    · rw [if_neg hnm]
      have h0 := hp.own m
      show OwnAt F' ρ w m (getH hs m)
      have h0 : OwnAt F ρ w m (getH hs m) := h0
      cases e : getH hs m with
      | dead => trivial
      | fz rows' =>
        rw [e] at h0
        rcases h0 with h1 | ⟨b, k', cap, c, e', fr, h1, h2, h3, h4, h5⟩
        · exact .inl h1
        · exact .inr ⟨b, k', cap, c, e', fr, h1, hle _ _ h2, h3, h4, h5.mono hle (Places.le_refl _)⟩
      | mp l =>
        rw [e] at h0
        obtain ⟨b, es, clock, h1, h2, h3⟩ := h0
        exact ⟨b, es, clock, h1, h2, h3.mono hle (Places.le_refl _)⟩
      | own ex' k' rows' =>
        rw [e] at h0
        rcases h0 with h1 | ⟨b, cap, c, e', h1, h2, h3, h4, h5, h6⟩
        · exact .inl h1
        · exact .inr ⟨b, cap, c, e', h1, h2, h3, h4, h5, h6.mono hle (Places.le_refl _)⟩
  · have hm : (getH ((n, .fz rows) :: hs) m).isOwn = true := hm
    rw [getH_cons] at hm
    by_cases hnm : n = m
    · rw [if_pos hnm] at hm; cases hm
    · rw [if_neg hnm] at hm
      have h1 := hp.new m b c hm hρ
      refine ⟨?_, h1.2⟩
      simp only [F']
      rw [if_neg (fun ⟨c', hc'⟩ => hp.sep n m b c' c hnm hn' hm hc' hρ)]
      exact h1.1
  · have hm : (getH ((n, .fz rows) :: hs) m).isOwn = true := hm
    have hm' : (getH ((n, .fz rows) :: hs) m').isOwn = true := hm'
    rw [getH_cons] at hm hm'
    by_cases hnm : n = m
    · rw [if_pos hnm] at hm; cases hm
    · by_cases hnm' : n = m'
      · rw [if_pos hnm'] at hm'; cases hm'
      · rw [if_neg hnm] at hm; rw [if_neg hnm'] at hm'
        exact hp.sep m m' b c c' hne hm hm' h1 h2

/-- A nil slice, or one without rows and room, as memory of our own that lies nowhere. -/
theorem red_nil {C : Cx} {ts : List (Nat × AV)} {hs : List (Nat × HB)} {nx : Nat} (i : Nat) (k : Nat) (hi : getT ts i = .sl true []) (hnx : C.nh ≤ nx) : Red C ⟨ts, hs, nx⟩ ⟨(i, .os nx 0 0) :: ts, (nx, .own true k []) :: hs, nx + 1⟩ := by
  intro B a w hB ⟨g1, g2, F, ρ, hp, g4⟩
  let ρ' : Places := fun n => if n = nx then some none else ρ n
  have hnone : ρ nx = none := by
    cases h : ρ nx with
    | none => rfl
    | some c => exact absurd (hp.dom nx (by rw [h]; simp)) (Nat.lt_irrefl _)
  have hle : ρ.le ρ' := fun n c hn => by
    simp only [ρ']
    by_cases e : n = nx
    · subst e; rw [hnone] at hn; cases hn
    · rw [if_neg e]; exact hn
  refine ⟨g1, g2, F, ρ', ?_, fun j => ?_⟩
  · refine { kept := hp.kept, agree := hp.agree, grow := hp.grow, fresh := hp.fresh, names := fun n c hn => hle n c (hp.names n c hn), dom := fun n hn => ?_, own := fun n => ?_, new := fun n b c ho hn => ?_, sep := fun n m b c c' hne ho ho' hn hn' => ?_ }
    · simp only [ρ'] at hn
      show n < nx + 1
      by_cases e : n = nx
      · omega
      · rw [if_neg e] at hn; have : n < nx := hp.dom n hn; omega
    · show OwnAt F ρ' w n (getH ((nx, .own true k []) :: hs) n)
      rw [getH_cons]
      by_cases e : nx = n
      · rw [if_pos e]; subst e; exact .inl ⟨by simp [ρ'], rfl⟩
      · rw [if_neg e]
        have h0 : OwnAt F ρ w n (getH hs n) := hp.own n
        cases e1 : getH hs n with
        | dead => trivial
        | fz rows' =>
          rw [e1] at h0
          rcases h0 with ⟨h1, h2⟩ | ⟨b, k', cap, c, e', fr, h1, h2, h3⟩
          · exact .inl ⟨hle _ _ h1, h2⟩
          · exact .inr ⟨b, k', cap, c, e', fr, hle _ _ h1, h2, h3⟩
        | mp l =>
          rw [e1] at h0
          obtain ⟨b, es, clock, h1, h2, h3⟩ := h0
          exact ⟨b, es, clock, hle _ _ h1, h2, h3.mono (Still.le_refl _) hle⟩
        | own ex' k' rows' =>
          rw [e1] at h0
          rcases h0 with ⟨h1, h2⟩ | ⟨b, cap, c, e', h1, h2, h3, h4, h5, h6⟩
          · exact .inl ⟨hle _ _ h1, h2⟩
          · exact .inr ⟨b, cap, c, e', hle _ _ h1, h2, h3, h4, h5, h6.mono (Still.le_refl _) hle⟩
    · have ho : (getH ((nx, .own true k []) :: hs) n).isOwn = true := ho
      rw [getH_cons] at ho
      simp only [ρ'] at hn
      by_cases e : n = nx
      · rw [if_pos e] at hn; cases hn
      · rw [if_neg e] at hn; rw [if_neg (fun h => e h.symm)] at ho; exact hp.new n b c ho hn
    · have ho : (getH ((nx, .own true k []) :: hs) n).isOwn = true := ho
      have ho' : (getH ((nx, .own true k []) :: hs) m).isOwn = true := ho'
      rw [getH_cons] at ho ho'
      simp only [ρ'] at hn hn'
      by_cases e : n = nx
      · rw [if_pos e] at hn; cases hn
      · by_cases e' : m = nx
        · rw [if_pos e'] at hn'; cases hn'
        · rw [if_neg e] at hn; rw [if_neg e'] at hn'
          rw [if_neg (fun h => e h.symm)] at ho; rw [if_neg (fun h => e' h.symm)] at ho'
          exact hp.sep n m b c c' hne ho ho' hn hn'
  · show M F ρ' _ (getT ((i, _) :: ts) j)
    rw [getT_cons]
    by_cases e : i = j
    · subst e
      rw [if_pos rfl]
      have h1 : M F ρ _ (getT ts i) := g4 i
      rw [hi] at h1
      rcases h1.sl_inv with ⟨_, ad, cap, hv, hc, _⟩ | ⟨b, o, cap, c, e', fr, kk, hb, _, hc, _, _, _, hv⟩
      · have hc0 : cap = 0 := hc rfl
        subst hc0; rw [hv]; exact .osn _ nx ad (by simp [ρ'])
      · have hc0 : cap = 0 := hc rfl
        subst hc0; rw [hv]; exact .osn _ nx _ (by simp [ρ'])
    · rw [if_neg e]; exact (g4 j).mono (Still.le_refl _) hle

/-- What is handed back lies partly in memory of our own: H', its names 0, 1, .. -/
theorem fin_own {C : Cx} {rs : List ResultVar} {σ : St} {xs : List AV} {r : AV} {H' : List HB} (L : List (Nat × Nat)) (nx : Nat) (hr : ResOk C σ rs xs) (hL : listOk C.nh nx L = true) (hh : HsOk L C.nh σ (enumH 0 H')) (hz : RenV L C.nh (pack xs) r) : Fin C rs.toArray C.nh r H' σ := by
  intro fn B a w hrs hρ0 ⟨g1, g2, F, ρ, hp, g4⟩
  obtain ⟨v, hrun, hm⟩ := run_results hrs hp g4 hr
  obtain ⟨ρ', hp', hsub⟩ := hp_ren (τ := ⟨[], enumH 0 H', nx⟩) L hL hh hρ0 hp
  refine ⟨v, hrun, rfl, rfl, F, ρ', ?_, fun i => ?_⟩
  · have he : (fun n => H'.getD n .dead) = getH (enumH 0 H') := by
      funext n
      have := findH_enum H' 0 n
      rw [Nat.zero_add] at this
      exact this.symm
    rw [he]
    exact { hp' with dom := fun _ _ => trivial, kept := ⟨hp'.kept.os, hp'.kept.tape, hp'.kept.output, hp'.kept.size, hp'.kept.block⟩ }
  · by_cases hi : i = 0
    · subst hi; exact hz F ρ ρ' v hsub hm
    · unfold one; rw [if_neg hi]; exact .junk _ _

theorem tsok_nil {L : List (Nat × Nat)} {nh : Nat} {σ : St} : TsOk L nh σ [] := trivial
theorem tsok_cons {L : List (Nat × Nat)} {nh : Nat} {σ : St} {i : Nat} {x y : AV} {l : List (Nat × AV)} (hx : getT σ.ts i = x) (h : RenV L nh x y) (hl : TsOk L nh σ l) : TsOk L nh σ ((i, y) :: l) := ⟨by rw [hx]; exact h, hl⟩
theorem tsok_pure {L : List (Nat × Nat)} {nh : Nat} {σ : St} {i : Nat} {x : AV} {l : List (Nat × AV)} (hx : getT σ.ts i = x) (hp : x.pure = true) (hl : TsOk L nh σ l) : TsOk L nh σ ((i, x) :: l) := ⟨by rw [hx]; exact ren_pure hp, hl⟩
theorem tsok_eq {L : List (Nat × Nat)} {nh : Nat} {σ : St} {i : Nat} {x y : AV} {l : List (Nat × AV)} (hx : getT σ.ts i = x) (hxy : x = y) (hp : y.pure = true) (hl : TsOk L nh σ l) : TsOk L nh σ ((i, y) :: l) := tsok_pure (hx.trans hxy) hp hl
theorem hsok_nil {L : List (Nat × Nat)} {nh : Nat} {σ : St} : HsOk L nh σ [] := trivial
theorem hsok_own {L : List (Nat × Nat)} {nh : Nat} {σ : St} {n n' : Nat} {ex ex' : Bool} {k : Nat} {rows rows' : List (List AV)} {l : List (Nat × HB)} (hm : Maps L nh n n') (hx : getH σ.hs n = .own ex k rows) (he : ex' = true → ex = true) (hr : RenRows L nh rows rows') (hl : HsOk L nh σ l) :
    HsOk L nh σ ((n', .own ex' k rows') :: l) := ⟨⟨n, hm, by rw [hx]; exact ⟨he, rfl, hr⟩⟩, hl⟩
/-- An address in memory that is written no more, told by its rows. -/
theorem red_fp {C : Cx} {ts : List (Nat × AV)} {hs : List (Nat × HB)} {nx : Nat} (i n : Nat) {r j : Nat} {rows : List (List AV)} (hi : getT ts i = .op n r j) (hn : getH hs n = .fz rows) (hr : r < rows.length) : Red C ⟨ts, hs, nx⟩ ⟨(i, .fp rows r j) :: ts, hs, nx⟩ := by
  intro B a w hB ⟨g1, g2, F, ρ, hp, g4⟩
  refine ⟨g1, g2, F, ρ, { kept := hp.kept, agree := hp.agree, grow := hp.grow, fresh := hp.fresh, names := hp.names, dom := hp.dom, own := hp.own, new := hp.new, sep := hp.sep }, fun m => ?_⟩
  show M F ρ _ (getT ((i, _) :: ts) m)
  rw [getT_cons]
  by_cases him : i = m
  · subst him
    rw [if_pos rfl]
    have h1 := g4 i
    have h1 : M F ρ _ (getT ts i) := h1
    rw [hi] at h1
    have h2 := hp.own n
    have h2 : OwnAt F ρ w n (getH hs n) := h2
    rw [hn] at h2
    rcases h2 with ⟨_, h3⟩ | ⟨b', k, cap', c, e, fr, h3, hb, hsz, hle, hR⟩
    · rw [h3] at hr; simp at hr
    · obtain ⟨b, k', cap, hρ, hv⟩ := h1.op_inv
      rw [hρ] at h3
      simp only [Option.some.injEq, Prod.mk.injEq] at h3
      obtain ⟨rfl, rfl, rfl⟩ := h3
      rw [hv]
      have := M.fp (F := F) ρ b 0 c e fr k' rows r j hb hr (by rw [Nat.zero_add]; exact hsz) hR.1 (fun i j row x v a1 a2 a3 => hR.2 i j row x v a1 a2 (by rw [Nat.zero_add] at a3; exact a3))
      rw [Nat.zero_add] at this
      exact this
  · rw [if_neg him]
    exact g4 m
end Go.Ab
