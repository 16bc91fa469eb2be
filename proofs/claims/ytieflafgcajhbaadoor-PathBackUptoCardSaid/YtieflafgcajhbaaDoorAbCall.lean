/- The abstract layer, 9: contracts; a function's body; calls. -/
import Derived.Test.YtieflafgcajhbaaDoorAbCode
set_option linter.unusedSimpArgs false
set_option linter.unusedVariables false
namespace Go.Ab
open Go.RowKit

def one (r : AV) : Nat → AV := fun i => if i = 0 then r else .junk

/-- A contract: called with these arguments, and memory H handed over (its names are 0, 1, ..), the function returns r, and leaves H'. -/
def ACall (P : Program) (f : FuncId) (args : List AV) (H : List HB) (r : AV) (H' : List HB) : Prop :=
  ∀ (B : Base) (vs : List Value) (w : World), vs.length = args.length → B.N = vs.length → Ga B (· < H.length) (fun i => args.getD i .junk) (fun n => H.getD n .dead) ⟨vs.toArray, []⟩ w →
    Calls P f vs.toArray w fun e w' => ∃ v, e = .returned v ∧ Ga { B with N := 1 } (fun _ => True) (one r) (fun n => H'.getD n .dead) ⟨#[v], []⟩ w'

/-- Without memory handed over either way. -/
abbrev AFn (P : Program) (f : FuncId) (args : List AV) (r : AV) : Prop := ACall P f args [] r []

def enumT : Nat → List AV → List (Nat × AV)
  | _, [] => []
  | i, x :: l => (i, x) :: enumT (i + 1) l
def enumH : Nat → List HB → List (Nat × HB)
  | _, [] => []
  | i, x :: l => (i, x) :: enumH (i + 1) l

theorem getT_enum (l : List AV) : ∀ (i j : Nat), getT (enumT i l) (i + j) = l.getD j .junk := by
  induction l with
  | nil => intro i j; rfl
  | cons x l ih =>
    intro i j
    cases j with
    | zero => simp [enumT, getT]
    | succ j =>
      have := ih (i + 1) j
      rw [show i + 1 + j = i + (j + 1) from by omega] at this
      simp only [enumT, getT]
      rw [if_neg (by omega), this]
      simp
theorem findH_enum (l : List HB) : ∀ (i j : Nat), (findH (enumH i l) (i + j)).getD .dead = l.getD j .dead := by
  induction l with
  | nil => intro i j; rfl
  | cons x l ih =>
    intro i j
    cases j with
    | zero => simp [enumH, findH]
    | succ j =>
      have := ih (i + 1) j
      rw [show i + 1 + j = i + (j + 1) from by omega] at this
      simp only [enumH, findH]
      rw [if_neg (by omega), this]
      simp

/-- What a function hands back, out of the state at its end. -/
def Fin (C : Cx) (rs : Array ResultVar) (nh : Nat) (r : AV) (H' : List HB) (σ : St) : Prop :=
  ∀ (fn : Func) (B : Base) (a : Act) (w : World), fn.results = rs → (∀ n, B.ρ0 n ≠ none → n < nh) → Gs B σ a w → ∃ v, (results fn a.tmps).run C.P w = .ok v w ∧ Ga { B with N := 1 } (fun _ => True) (one r) (fun n => H'.getD n .dead) ⟨#[v], []⟩ w

def finQ (C : Cx) (rs : Array ResultVar) (nh : Nat) (r : AV) (H' : List HB) : Exit → St → Prop
  | .normal, σ | .ret, σ => Fin C rs nh r H' σ
  | _, _ => False

/-- A function's body. -/
theorem acall_intro {C : Cx} {f : FuncId} {fn : Func} {c : Code} {args : List AV} {H : List HB} {r : AV} {H' : List HB} (hf : C.P.funcs[f]? = some fn) (hb : fn.body = some c) (N : Nat) (hN : fn.ntmps = N) (hl : args.length ≤ N) (rs : Array ResultVar) (hrs : fn.results = rs)
    (nh : Nat) (hH : H.length = nh) (hnh : C.nh = nh) (h : Awp C N c (finQ C rs nh r H') ⟨enumT 0 args, enumH 0 H, nh⟩) : ACall C.P f args H r H' := by
  subst hH
  intro B vs w hvs hBN g
  refine calls_of_wp hf hb ?_
  have hsz : (vs.toArray ++ Array.replicate (fn.ntmps - vs.toArray.size) undef).size = N := by simp; omega
  have hρ0 : ∀ n, B.ρ0 n ≠ none → n < H.length := by
    obtain ⟨_, _, F, ρ, hp, _⟩ := g
    intro n hn
    refine hp.dom n ?_
    cases h0 : B.ρ0 n with
    | none => exact absurd h0 hn
    | some c => rw [hp.names n c h0]; simp
  have g' : Gs { B with N := N } ⟨enumT 0 args, enumH 0 H, H.length⟩ { tmps := vs.toArray ++ Array.replicate (fn.ntmps - vs.toArray.size) undef, defers := [] } w := by
    obtain ⟨_, _, F, ρ, hp, g4⟩ := g
    refine ⟨rfl, hsz, F, ρ, ?_, fun i => ?_⟩
    · have hh : getH (enumH 0 H) = fun n => H.getD n .dead := by
        funext n
        have := findH_enum H 0 n
        rw [Nat.zero_add] at this
        exact this
      show Hp _ _ (getH (enumH 0 H)) _ _ _
      rw [hh]
      exact { kept := ⟨hp.kept.os, hp.kept.tape, hp.kept.output, hp.kept.size, hp.kept.block⟩, agree := hp.agree, grow := hp.grow, fresh := hp.fresh, names := hp.names, dom := hp.dom, own := hp.own, new := hp.new, sep := hp.sep }
    · have ht : getT (enumT 0 args) i = args.getD i .junk := by
        have := getT_enum args 0 i
        rw [Nat.zero_add] at this
        exact this
      show M F ρ _ (getT (enumT 0 args) i)
      rw [ht]
      by_cases hi : i < vs.length
      · have := g4 i
        simp only [Array.getD_eq_getD_getElem?, List.getElem?_toArray] at this ⊢
        rw [Array.getElem?_append_left (by simpa using hi)]
        simpa using this
      · rw [List.getD_eq_getElem?_getD, List.getElem?_eq_none (by omega)]
        exact .junk _ _
  refine wp_mono (h { B with N := N } _ w ⟨rfl, by rw [hnh]; exact hρ0⟩ g') ?_
  intro e a' w' ⟨σ', q, g''⟩
  cases e with
  | normal =>
    obtain ⟨v, hr, hg⟩ := q fn { B with N := N } a' w' hrs hρ0 g''
    exact ⟨g''.1, v, hr, v, rfl, hg⟩
  | ret =>
    obtain ⟨v, hr, hg⟩ := q fn { B with N := N } a' w' hrs hρ0 g''
    exact ⟨g''.1, v, hr, v, rfl, hg⟩
  | exit _ => exact q.elim
  | goto _ => exact q.elim
  | panic _ => exact q.elim
  | outgrown => exact q.elim

/-- The blocks that are written no more, once all of our own is so. -/
noncomputable def plus (F : Still) (ρ : Places) (h : Nat → HB) (w : World) : Still := fun b =>
  match F b with
  | some o => some o
  | none => @ite _ (∃ n c, (h n).isOwn = true ∧ ρ n = some (some (b, c))) (Classical.propDecidable _) w.heap[b]? none

theorem plus_le (F : Still) (ρ : Places) (h : Nat → HB) (w : World) : F.le (plus F ρ h w) := fun b o hb => by unfold plus; rw [hb]

/-- x, told without our own memory, once that is written no more. -/
def Rz (h : Nat → HB) (x y : AV) : Prop :=
  ∀ (F : Still) (ρ : Places) (w : World) (v : Value), (∀ n, OwnAt F ρ w n (h n)) → (∀ n b c, (h n).isOwn = true → ρ n = some (some (b, c)) → F b = none) → M F ρ v x → M (plus F ρ h w) noPlaces v y

def RzL (h : Nat → HB) (xs ys : List AV) : Prop := xs.length = ys.length ∧ ∀ (i : Nat) x y, xs[i]? = some x → ys[i]? = some y → Rz h x y

section rz
variable {h : Nat → HB}
theorem rz_pure {x : AV} (hx : x.pure = true) : Rz h x x := fun F ρ w v _ _ hm => (hm.moved noPlaces hx).mono (plus_le F ρ h w) (Places.le_refl _)
theorem rz_ex {rows : List (List AV)} : Rz h (.sl true rows) (.sl false rows) := fun F ρ w v _ _ hm => by
  have hm := (hm.moved noPlaces rfl).mono (plus_le F ρ h w) (Places.le_refl _)
  cases hm with
  | sl0 _ a cap ex he hn => exact .sl0 _ a cap false (fun e => by cases e) hn
  | sl _ b off cap c e fr ex k rows hb hc he hs hk h => exact .sl _ b off cap c e fr false k rows hb hc (fun e => by cases e) hs hk h
theorem rzl_nil : RzL h [] [] := ⟨rfl, fun i x y hx => by cases i <;> cases hx⟩
theorem rzl_cons {x y : AV} {xs ys : List AV} (hx : Rz h x y) (hl : RzL h xs ys) : RzL h (x :: xs) (y :: ys) := by
  refine ⟨by simp [hl.1], fun i a b ha hb => ?_⟩
  cases i with
  | zero => simp at ha hb; subst ha; subst hb; exact hx
  | succ i => exact hl.2 i a b (by simpa using ha) (by simpa using hb)
theorem rz_agg {xs ys : List AV} (hl : RzL h xs ys) : Rz h (.agg xs) (.agg ys) := fun F ρ w v ho hn hm => by
  obtain ⟨vs, rfl, h1, h2⟩ := hm.agg_inv
  refine .agg _ vs ys (by rw [h1, hl.1]) fun i u y hu hy => ?_
  have hi : i < xs.length := by rw [hl.1]; exact (List.getElem?_eq_some_iff.1 hy).1
  have hx : xs[i]? = some xs[i] := List.getElem?_eq_getElem hi
  exact hl.2 i _ y hx hy F ρ w u ho hn (h2 i u _ hu hx)
theorem rz_tup {xs ys : List AV} (hl : RzL h xs ys) : Rz h (.tup xs) (.tup ys) := fun F ρ w v ho hn hm => by
  obtain ⟨vs, rfl, h1, h2⟩ := hm.tup_inv
  refine .tup _ vs ys (by rw [h1, hl.1]) fun i u y hu hy => ?_
  have hi : i < xs.length := by rw [hl.1]; exact (List.getElem?_eq_some_iff.1 hy).1
  have hx : xs[i]? = some xs[i] := List.getElem?_eq_getElem hi
  exact hl.2 i _ y hx hy F ρ w u ho hn (h2 i u _ hu hx)

/-- Rows, each told so. -/
def RzRows (h : Nat → HB) (rows rows' : List (List AV)) : Prop := rows.length = rows'.length ∧ ∀ (i : Nat) row row', rows[i]? = some row → rows'[i]? = some row' → RzL h row row'
theorem rzrows_pure {rows : List (List AV)} (hr : ∀ row, row ∈ rows → AV.pure.pureL row = true) : RzRows h rows rows :=
  ⟨rfl, fun i row row' h1 h2 => by
    rw [h1] at h2; injection h2 with h2; subst h2
    exact ⟨rfl, fun j x y hx hy => by rw [hx] at hy; injection hy with hy; subst hy; exact rz_pure (pureL_mem (hr row (List.mem_of_getElem? h1)) hx)⟩⟩
theorem rzrows_map {α : Type} {f : α → List AV} {l : List α} (hf : ∀ a, AV.pure.pureL (f a) = true) : RzRows h (l.map f) (l.map f) :=
  rzrows_pure fun row hr => by obtain ⟨a, _, rfl⟩ := List.mem_map.1 hr; exact hf a
theorem rzrows_nil : RzRows h [] [] := ⟨rfl, fun i a b ha => by cases i <;> cases ha⟩
theorem rzrows_cons {row row' : List AV} {rows rows' : List (List AV)} (h1 : RzL h row row') (h2 : RzRows h rows rows') : RzRows h (row :: rows) (row' :: rows') := by
  refine ⟨by simp [h2.1], fun i a b ha hb => ?_⟩
  cases i with
  | zero => simp at ha hb; subst ha; subst hb; exact h1
  | succ i => exact h2.2 i a b (by simpa using ha) (by simpa using hb)

theorem plus_own {F : Still} {ρ : Places} {w : World} {n b : Nat} {c : Nat × Nat} (hn : (h n).isOwn = true) (hρ : ρ n = some (some (b, c))) (hF : F b = none) : plus F ρ h w b = w.heap[b]? := by
  unfold plus
  rw [hF]
  simp only
  rw [if_pos ⟨n, c, hn, hρ⟩]

theorem rz_os {n off len : Nat} {ex : Bool} {k : Nat} {rows rows' : List (List AV)} (hn : h n = .own ex k rows) (hl : off + len ≤ rows.length) (hr : RzRows h ((rows.drop off).take len) rows') : Rz h (.os n off len) (.sl false rows') := fun F ρ w v ho hnn hm => by
  have hlen : rows'.length = len := by rw [← hr.1]; simp; omega
  have hon := ho n
  rw [hn] at hon
  rcases hm.os_inv with ⟨h1, rfl, rfl, ad0, rfl⟩ | ⟨b, k', cap, a, hρ, rfl, hcap, ha⟩
  · have : rows' = [] := List.eq_nil_of_length_eq_zero hlen
    subst this
    exact .sl0 _ ad0 0 false (fun e => by cases e) (fun _ => rfl)
  · obtain ⟨rfl, c, e, hb, hsz, hle, hex, hR⟩ := own_block hon hρ
    by_cases h0 : len = 0
    · subst h0
      have : rows' = [] := List.eq_nil_of_length_eq_zero hlen
      subst this
      exact .sl0 _ (some a) _ false (fun e => by cases e) (fun e => by cases e)
    · have ha' := ha (by omega)
      subst ha'
      have hmul : off * k' + len * k' ≤ cap * k' := by rw [← Nat.add_mul]; exact Nat.mul_le_mul_right _ hcap
      have hget : ∀ (i : Nat) row', rows'[i]? = some row' → ∃ row, rows[off + i]? = some row ∧ RzL h row row' := by
        intro i row' hi
        have hil : i < len := by rw [← hlen]; exact (List.getElem?_eq_some_iff.1 hi).1
        have h1 : ((rows.drop off).take len)[i]? = some (rows[off + i]'(by omega)) := by rw [getElem?_drop_take _ _ _ _ hil, List.getElem?_eq_getElem (by omega)]
        exact ⟨_, List.getElem?_eq_getElem (by omega), hr.2 i _ _ h1 hi⟩
      have := M.sl (F := plus F ρ h w) noPlaces b (off * k') (cap - off) c e (0, 0) false k' rows' (by rw [plus_own (by rw [hn]; rfl) hρ (hnn n b _ (by rw [hn]; rfl) hρ)]; exact hb) (by rw [hlen]; omega) (fun e => by cases e)
        (by rw [hlen, hsz]; exact hmul) (fun row' hrow' => by
          obtain ⟨i, hi⟩ := List.mem_iff_getElem?.1 hrow'
          obtain ⟨row, h1, h2⟩ := hget i row' hi
          rw [← h2.1]; exact hR.1 row (List.mem_of_getElem? h1))
        (fun i j row' y u hi hj hu => by
          obtain ⟨row, h1, h2⟩ := hget i row' hi
          have hj' : j < row.length := by rw [h2.1]; exact (List.getElem?_eq_some_iff.1 hj).1
          have hx : row[j]? = some row[j] := List.getElem?_eq_getElem hj'
          refine h2.2 j _ y hx hj F ρ w u ho hnn (hR.2 (off + i) j row _ u h1 hx ?_)
          rw [Nat.add_mul]; exact hu)
      rw [hlen] at this
      exact this

theorem rz_op {n i j : Nat} {ex : Bool} {k : Nat} {rows rows' : List (List AV)} (hn : h n = .own ex k rows) (hi : i < rows.length) (hr : RzRows h rows rows') : Rz h (.op n i j) (.fp rows' i j) := fun F ρ w v ho hnn hm => by
  have hon := ho n
  rw [hn] at hon
  obtain ⟨b, k', cap, hρ, rfl⟩ := hm.op_inv
  obtain ⟨rfl, c, e, hb, hsz, hle, hex, hR⟩ := own_block hon hρ
  have hget : ∀ (i : Nat) row', rows'[i]? = some row' → ∃ row, rows[i]? = some row ∧ RzL h row row' := by
    intro i row' hi
    have hil : i < rows.length := by rw [hr.1]; exact (List.getElem?_eq_some_iff.1 hi).1
    exact ⟨_, List.getElem?_eq_getElem hil, hr.2 i _ _ (List.getElem?_eq_getElem hil) hi⟩
  have := M.fp (F := plus F ρ h w) noPlaces b 0 c e (0, 0) k' rows' i j (by rw [plus_own (by rw [hn]; rfl) hρ (hnn n b _ (by rw [hn]; rfl) hρ)]; exact hb) (by rw [← hr.1]; exact hi)
    (by rw [← hr.1, hsz, Nat.zero_add]; exact Nat.mul_le_mul_right _ hle) (fun row' hrow' => by
      obtain ⟨i, hi⟩ := List.mem_iff_getElem?.1 hrow'
      obtain ⟨row, h1, h2⟩ := hget i row' hi
      rw [← h2.1]; exact hR.1 row (List.mem_of_getElem? h1))
    (fun i j row' y u hi hj hu => by
      obtain ⟨row, h1, h2⟩ := hget i row' hi
      have hj' : j < row.length := by rw [h2.1]; exact (List.getElem?_eq_some_iff.1 hj).1
      have hx : row[j]? = some row[j] := List.getElem?_eq_getElem hj'
      exact h2.2 j _ y hx hj F ρ w u ho hnn (hR.2 i j row _ u h1 hx (by rw [Nat.zero_add] at hu; exact hu)))
  rw [Nat.zero_add] at this
  exact this
theorem rz_clo {fn : Fn} {xs ys xs' ys' : List AV} (h1 : RzL h xs xs') (h2 : RzL h ys ys') : Rz h (.clo fn xs ys) (.clo fn xs' ys') := fun F ρ w v ho hn hm => by
  cases hm with
  | clo _ fn vs us xs ys hl hm' a1 a2 =>
    refine .clo _ fn vs us xs' ys' (by rw [hl, h1.1]) (by rw [hm', h2.1]) (fun i u y hu hy => ?_) (fun i u y hu hy => ?_)
    · have hi : i < xs.length := by rw [h1.1]; exact (List.getElem?_eq_some_iff.1 hy).1
      have hx : xs[i]? = some xs[i] := List.getElem?_eq_getElem hi
      exact h1.2 i _ y hx hy F ρ w u ho hn (a1 i u _ hu hx)
    · have hi : i < ys.length := by rw [h2.1]; exact (List.getElem?_eq_some_iff.1 hy).1
      have hx : ys[i]? = some ys[i] := List.getElem?_eq_getElem hi
      exact h2.2 i _ y hx hy F ρ w u ho hn (a2 i u _ hu hx)
end rz
end Go.Ab
