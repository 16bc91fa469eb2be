/- The abstract layer, 10: what comes back; calls. -/
import Derived.Test.YtieflafgcajhbaaDoorAbCall
set_option linter.unusedSimpArgs false
set_option linter.unusedVariables false
namespace Go.Ab
open Go.RowKit

/-- The results, as the state tells them. -/
def ResOk (C : Cx) (σ : St) : List ResultVar → List AV → Prop
  | [], [] => True
  | .tmp i :: rs, x :: xs => getT σ.ts i = x ∧ ResOk C σ rs xs
  | .cell a T :: rs, x :: xs => (∃ n i j ex k rows r row, getT σ.ts a = .op n i j ∧ getH σ.hs n = .own ex k rows ∧ look C.tab T = some r ∧ rows[i]? = some row ∧ cut r row j = some x) ∧ ResOk C σ rs xs
  | _, _ => False

theorem resok_nil {C : Cx} {σ : St} : ResOk C σ [] [] := trivial
theorem resok_tmp {C : Cx} {σ : St} {i : Nat} {rs : List ResultVar} {x : AV} {xs : List AV} (hx : getT σ.ts i = x) (h : ResOk C σ rs xs) : ResOk C σ (.tmp i :: rs) (x :: xs) := ⟨hx, h⟩
theorem resok_cell {C : Cx} {σ : St} {a T n i j : Nat} {ex : Bool} {k : Nat} {rows : List (List AV)} {r : TRec} {row : List AV} {rs : List ResultVar} {x : AV} {xs : List AV} (h1 : getT σ.ts a = .op n i j) (h2 : getH σ.hs n = .own ex k rows)
    (h3 : look C.tab T = some r) (h4 : rows[i]? = some row) (h5 : cut r row j = some x) (h : ResOk C σ rs xs) : ResOk C σ (.cell a T :: rs) (x :: xs) := ⟨⟨n, i, j, ex, k, rows, r, row, h1, h2, h3, h4, h5⟩, h⟩

theorem run_mapM {α β : Type} {P : Program} {w : World} (f : α → Sem β) (Q : α → β → Prop) : ∀ (l : List α), (∀ x, x ∈ l → ∃ v, (f x).run P w = .ok v w ∧ Q x v) → ∃ vs : List β, (l.mapM f).run P w = .ok vs w ∧ vs.length = l.length ∧ ∀ (i : Nat) x v, l[i]? = some x → vs[i]? = some v → Q x v
  | [], _ => ⟨[], by simp, rfl, fun i x v h => by cases i <;> cases h⟩
  | x :: l, h => by
    obtain ⟨v, hv, hq⟩ := h x (List.mem_cons_self ..)
    obtain ⟨vs, hvs, hl, hqs⟩ := run_mapM f Q l fun y hy => h y (List.mem_cons_of_mem _ hy)
    refine ⟨v :: vs, by simp [List.mapM_cons, hv, hvs], by simp [hl], fun i y u hy hu => ?_⟩
    cases i with
    | zero => simp at hy hu; subst hy; subst hu; exact hq
    | succ i => exact hqs i y u (by simpa using hy) (by simpa using hu)

theorem ResOk.get {C : Cx} {σ : St} : ∀ {rs : List ResultVar} {xs : List AV}, ResOk C σ rs xs → rs.length = xs.length ∧ ∀ (i : Nat) rv x, rs[i]? = some rv → xs[i]? = some x → ResOk C σ [rv] [x]
  | [], [], _ => ⟨rfl, fun i rv x h => by cases i <;> cases h⟩
  | .tmp i :: rs, x :: xs, h => by
    obtain ⟨hl, hg⟩ := ResOk.get h.2
    refine ⟨by simp [hl], fun j rv y hr hy => ?_⟩
    cases j with
    | zero => simp at hr hy; subst hr; subst hy; exact ⟨h.1, trivial⟩
    | succ j => exact hg j rv y (by simpa using hr) (by simpa using hy)
  | .cell a T :: rs, x :: xs, h => by
    obtain ⟨hl, hg⟩ := ResOk.get h.2
    refine ⟨by simp [hl], fun j rv y hr hy => ?_⟩
    cases j with
    | zero => simp at hr hy; subst hr; subst hy; exact ⟨h.1, trivial⟩
    | succ j => exact hg j rv y (by simpa using hr) (by simpa using hy)
  | [], _ :: _, h => h.elim
  | .tmp _ :: _, [], h => h.elim
  | .cell _ _ :: _, [], h => h.elim

/-- Several results are a tuple. -/
def pack : List AV → AV
  | [x] => x
  | xs => .tup xs

theorem run_results {C : Cx} {σ : St} {B : Base} {A : Nat → Prop} {F : Still} {ρ : Places} {a : Act} {w : World} {fn : Func} {rs : List ResultVar} {xs : List AV} (hrs : fn.results = rs.toArray) (hp : Hp B A (getH σ.hs) F ρ w) (ht : ∀ i, M F ρ (a.tmps.getD i undef) (getT σ.ts i))
    (hr : ResOk C σ rs xs) : ∃ v, (results fn a.tmps).run C.P w = .ok v w ∧ M F ρ v (pack xs) := by
  obtain ⟨hl, hg⟩ := hr.get
  obtain ⟨vs, h1, h2, h3⟩ := run_mapM (P := C.P) (w := w) (fun rv : ResultVar => match rv with
    | .tmp t => (pure (a.tmps.getD t undef) : Sem Value)
    | .cell ad t => do loadVar t (← asAddr (a.tmps.getD ad undef))) (fun rv v => ∀ x, ResOk C σ [rv] [x] → M F ρ v x) rs (by
      intro rv hrv
      obtain ⟨i, hi⟩ := List.mem_iff_getElem?.1 hrv
      have hix : i < xs.length := by rw [← hl]; exact (List.getElem?_eq_some_iff.1 hi).1
      have h0 := hg i rv _ hi (List.getElem?_eq_getElem hix)
      cases rv with
      | tmp t => exact ⟨a.tmps.getD t undef, rfl, fun x hx => hx.1 ▸ ht t⟩
      | cell ad T =>
        obtain ⟨⟨n, i', j, ex, k, rows, r, row, e1, e2, e3, e4, e5⟩, _⟩ := h0
        have hm := ht ad
        rw [e1] at hm
        obtain ⟨b, k', cap, hρ, hv⟩ := hm.op_inv
        have ho := hp.own n
        rw [e2] at ho
        obtain ⟨rfl, c, e, hb, hsz, hle, _, hR⟩ := own_block ho hρ
        have hi' : i' < rows.length := (List.getElem?_eq_some_iff.1 e4).1
        have hk : row.length = k' := hR.1 row (List.mem_of_getElem? e4)
        obtain ⟨v, hrun, hm'⟩ := run_load (F := F) (ρ := ρ) hb (C.ok T r e3) (base := i' * k') (j := j) (row := row) (by rw [hk, hsz]; exact mul_row hi' hle) (fun j x v hj hc => hR.2 i' j row x v e4 hj hc) e5
        refine ⟨v, by simp only [hv, asAddr, Sem.run_bind, Sem.run_pure, Result.andThen_ok, hrun], ?_⟩
        intro x ⟨⟨n2, i2, j2, ex2, k2, rows2, r2, row2, f1, f2, f3, f4, f5⟩, _⟩
        rw [e1] at f1; injection f1 with g1 g2 g3
        subst g1; subst g2; subst g3
        rw [e2] at f2; injection f2 with g1 g2 g3
        subst g3
        rw [e3] at f3; injection f3 with g1; subst g1
        rw [e4] at f4; injection f4 with g1; subst g1
        rw [e5] at f5; injection f5 with g1; subst g1
        exact hm')
  have hm : ∀ (i : Nat) v x, vs[i]? = some v → xs[i]? = some x → M F ρ v x := by
    intro i v x hv hx
    have hir : i < rs.length := by rw [hl]; exact (List.getElem?_eq_some_iff.1 hx).1
    have hr := List.getElem?_eq_getElem hir
    exact h3 i _ v hr hv x (hg i _ x hr hx)
  have hres : (results fn a.tmps).run C.P w = .ok (if h : vs.toArray.size = 1 then vs.toArray[0] else .tuple vs.toArray) w := by
    unfold results
    rw [Sem.run_bind, hrs, Array.mapM_eq_mapM_toList, Sem.run_map]
    refine (congrArg (fun r : Result (List Value) => ((r.andThen fun a w' => Result.ok a.toArray w').andThen fun vs w' => Sem.run C.P (pure (if h : vs.size = 1 then vs[0] else Value.tuple vs)) w')) h1).trans ?_
    rfl
  refine ⟨_, hres, ?_⟩
  have hvx : vs.length = xs.length := by rw [h2, hl]
  match xs, hvx, hm with
  | [x], hvx, hm =>
    match vs, hvx, hm with
    | [v], _, hm => exact hm 0 v x rfl rfl
  | [], hvx, hm =>
    have : vs = [] := List.eq_nil_of_length_eq_zero hvx
    subst this
    exact .tup _ [] [] rfl (fun i v x h => by cases i <;> cases h)
  | x :: y :: l, hvx, hm =>
    rw [dif_neg (by simp at hvx ⊢; omega)]
    exact .tup _ vs _ hvx hm

/-- Nothing of our own is handed back. -/
theorem fin_pure {C : Cx} {rs : List ResultVar} {nh : Nat} {σ : St} {xs : List AV} {r : AV} (hr : ResOk C σ rs xs) (hz : Rz (getH σ.hs) (pack xs) r) : Fin C rs.toArray nh r [] σ := by
  intro fn B a w hrs hρ0 ⟨g1, g2, F, ρ, hp, g4⟩
  obtain ⟨v, hrun, hm⟩ := run_results hrs hp g4 hr
  refine ⟨v, hrun, rfl, rfl, plus F ρ (getH σ.hs) w, ρ, ?_, fun i => ?_⟩
  · refine { kept := ⟨hp.kept.os, hp.kept.tape, hp.kept.output, hp.kept.size, hp.kept.block⟩, agree := ?_, grow := fun b o hb => plus_le F ρ _ w b o (hp.grow b o hb), fresh := ?_, names := hp.names, dom := fun _ _ => trivial, own := fun n => ?_, new := ?_, sep := ?_ }
    · intro b o hb
      unfold plus at hb
      cases hF : F b with
      | some o' => rw [hF] at hb; simp only at hb; rw [← hb]; exact hp.agree b o' hF
      | none =>
        rw [hF] at hb
        simp only at hb
        split at hb
        · exact hb
        · cases hb
    · intro b hb
      unfold plus at hb
      cases hF : F b with
      | some o' => exact hp.fresh b (by rw [hF]; simp)
      | none =>
        rw [hF] at hb
        simp only at hb
        split at hb
        · rename_i hex
          obtain ⟨n, c, hn, hρ⟩ := hex
          exact .inr (hp.new n b c hn hρ).2
        · exact absurd rfl hb
    · have : (List.getD ([] : List HB) n .dead) = .dead := by simp
      rw [this]; trivial
    · intro n b c hn
      simp [HB.isOwn] at hn
    · intro n m b c c' _ hn
      simp [HB.isOwn] at hn
  · by_cases hi : i = 0
    · subst hi
      exact ((hz F ρ w v hp.own (fun n b c h1 h2 => (hp.new n b c h1 h2).1) hm).mono (Still.le_refl _) (noPlaces_le ρ))
    · unfold one; rw [if_neg hi]; exact .junk _ _

/-- Own rows handed back: names 0, 1, .. in the order of the list. L: the names inside. -/
def flat : AV → Bool
  | .v _ => true
  | .tup cs => cs.all fun x => match x with | .v _ => true | _ => false
  | _ => false

theorem flat_moved {F G : Still} {ρ σ : Places} {v : Value} {x : AV} (hm : M F ρ v x) (hx : flat x = true) : M G σ v x := by
  cases hm with
  | v _ _ h => exact .v _ _ h
  | tup _ vs xs hl h =>
    refine .tup _ vs xs hl fun i u y hu hy => ?_
    have := List.all_eq_true.1 (by simpa [flat] using hx) y (List.mem_of_getElem? hy)
    have hm := h i u y hu hy
    cases y <;> simp at this
    obtain ⟨e, hs⟩ := hm.v_inv
    subst e
    exact .v _ _ hs
  | _ => simp [flat] at hx

/-- The part of a heap that is named. -/
def onlyH (rh : List Nat) (h : Nat → HB) : Nat → HB := fun n => if n ∈ rh then h n else .dead

theorem callFunc_run {P : Program} {f : FuncId} {fn : Func} (hf : P.funcs[f]? = some fn) (hb : fn.body.isNone = false) (hn : (fn.name == "runtime.NumGoroutine") = false) (args : Array Value) (w : World) : (callFunc f args).run P w = .ok (.enter f args) w := by
  unfold callFunc
  simp only [Sem.run_bind, program, Sem.run, hf, hn, hb, Bool.false_eq_true, if_false, Sem.run_pure, Result.andThen]

/-- A function that is one of the text's. -/
structure IsFn (P : Program) (f : FuncId) : Prop where
  ex : ∃ fn, P.funcs[f]? = some fn ∧ fn.body.isNone = false ∧ (fn.name == "runtime.NumGoroutine") = false

theorem evA_list {F : Still} {ρ : Places} {t : Nat → AV} {a : Act} {rt : List Nat} (hs : ∀ j, j ∈ rt → M F ρ (a.tmps.getD j undef) (t j)) : ∀ (l : List Operand), (∀ j, j ∈ l.flatMap opT → j ∈ rt) → ∀ (i : Nat) v x, (l.map a.eval)[i]? = some v → (l.map (evA t))[i]? = some x → M F ρ v x := by
  intro l hin i v x hv hx
  rw [List.getElem?_map] at hv hx
  cases hl : l[i]? with
  | none => simp [hl] at hv
  | some o =>
    simp only [hl, Option.map_some, Option.some.injEq] at hv hx
    subst hv; subst hx
    exact evA_sound hs fun j hj => hin j (List.mem_flatMap.2 ⟨o, List.mem_of_getElem? hl, hj⟩)

/-- What a call is entered with: the callee, and the arguments. -/
def Enters (P : Program) (o : Oper) (t : Nat → AV) (rt : List Nat) (f : FuncId) (xs : List AV) : Prop :=
  ∀ (F : Still) (ρ : Places) (a : Act) (w : World), (∀ j, j ∈ rt → M F ρ (a.tmps.getD j undef) (t j)) →
    ∃ vs : List Value, (execOp a.eval o).run P w = .ok (.enter f vs.toArray) w ∧ vs.length = xs.length ∧ ∀ (i : Nat) v x, vs[i]? = some v → xs[i]? = some x → M F ρ v x

section calls
variable {C : Cx} {N d : Nat} {ty : TypeId} {pos : String} {af : Array Edge} {gd : Option (Nat × Bool)} {t : Nat → AV} {h : Nat → HB}

/-- A plain call, or one of a function value. -/
theorem enters_call (f : FuncId) (hf : IsFn C.P f) (c : Operand) (args : List Operand) (tys : Array TypeId) (first cap : List AV) (hc : evA t c = .clo (.func f) first cap) :
    Enters C.P ⟨some d, .call ⟨.value c, args.toArray, tys⟩, ty, pos, af, gd⟩ t (opT c ++ args.flatMap opT) f (first ++ args.map (evA t) ++ cap) := by
  intro F ρ a w hs
  have h1 := evA_sound (x := c) hs (fun j hj => List.mem_append_left _ hj)
  rw [hc] at h1
  generalize hac : a.eval c = ac at h1
  cases h1 with
  | clo _ fn vs us xs ys hl hm a1 a2 =>
    refine ⟨vs ++ args.map a.eval ++ us, ?_, by simp [hl, hm], ?_⟩
    · obtain ⟨fn', hf1, hf2, hf3⟩ := hf.ex
      simp only [execOp, resolve, hac, Deferred.ofValue, Sem.run_bind, Sem.run_pure, Result.andThen_ok, invoke]
      rw [show (vs.toArray ++ args.toArray.map a.eval ++ us.toArray) = (vs ++ args.map a.eval ++ us).toArray from by simp]
      exact callFunc_run hf1 hf2 hf3 _ w
    · intro i v x hv hx
      rw [List.getElem?_append] at hv hx
      have e1 : (vs ++ args.map a.eval).length = (first ++ args.map (evA t)).length := by simp [hl]
      rw [e1] at hv
      split at hv
      · rename_i hi
        rw [if_pos hi] at hx
        rw [List.getElem?_append] at hv hx
        rw [hl] at hv
        split at hv
        · rename_i hi2
          rw [if_pos hi2] at hx
          exact a1 i v x hv hx
        · rename_i hi2
          rw [if_neg hi2] at hx
          exact evA_list hs args (fun j hj => List.mem_append_right _ hj) _ v x hv hx
      · rename_i hi
        rw [if_neg hi] at hx
        exact a2 _ v x hv hx

theorem upon_calls {P : Program} {o : Oper} {a : Act} {w w1 : World} {f : FuncId} {vs : Array Value} {K : Act → World → Prop} {Q : Exit → Act → World → Prop} (he : (execOp a.eval o).run P w = .ok (.enter f vs) w1) {R : Ending → World → Prop} (hc : Calls P f vs w1 R)
    (hk : ∀ e w', R e w' → ∃ v, e = .returned v ∧ K (a.put o.dst v) w') : o.wp P a w K Q := by
  unfold Oper.wp
  rw [he, Oper.upon_enter]
  refine hc.mono fun e w' hr => ?_
  obtain ⟨v, rfl, hk'⟩ := hk e w' hr
  exact hk'

/-- A call whose result is of no memory: what it is handed is lent. -/
theorem ex_call_flat {o : Oper} {f : FuncId} {xs ys : List AV} {r : AV} (rt rh : List Nat) (hd : o.dst = some d) (hN : d < N) (he : Enters C.P o t rt f xs) (hz : RzL (onlyH rh h) xs ys) (hc : ACall C.P f ys [] r []) (hfl : flat r = true) :
    ExOk C.P N o t h ⟨rt, rh, some d, r, [], []⟩ := by
  intro B A t' h' a w Q K hBN g hrt hrh _ hK
  obtain ⟨g1, g2, F, ρ, hp, g4⟩ := g
  obtain ⟨vs, hrun, hl, hm⟩ := he F ρ a w (fun j hj => (hrt j hj) ▸ g4 j)
  have heq : onlyH rh h' = onlyH rh h := by
    funext n; unfold onlyH; split
    · rename_i hn; exact hrh n hn
    · rfl
  have hown : ∀ n, OwnAt F ρ w n (onlyH rh h n) := fun n => by
    rw [← heq]; unfold onlyH; split
    · exact hp.own n
    · trivial
  have hnone : ∀ n b c, (onlyH rh h n).isOwn = true → ρ n = some (some (b, c)) → F b = none := fun n b c hn hρ => by
    rw [← heq] at hn; unfold onlyH at hn; split at hn
    · exact (hp.new n b c hn hρ).1
    · cases hn
  let F1 := plus F ρ (onlyH rh h) w
  let B' : Base := { w0 := w, F0 := F1, ρ0 := noPlaces, O0 := fun _ => False, N := vs.length }
  have hag : ∀ b o, F1 b = some o → w.heap[b]? = some o := by
    intro b o hb
    simp only [F1, plus] at hb
    cases hF : F b with
    | some o' => rw [hF] at hb; simp only at hb; rw [← hb]; exact hp.agree b o' hF
    | none =>
      rw [hF] at hb
      simp only at hb
      split at hb
      · exact hb
      · cases hb
  have hGa : Ga B' (· < ([] : List HB).length) (fun i => ys.getD i .junk) (fun n => ([] : List HB).getD n .dead) ⟨vs.toArray, []⟩ w := by
    refine ⟨rfl, by simp [B'], F1, noPlaces, ?_, fun i => ?_⟩
    · exact { kept := ⟨rfl, rfl, rfl, Nat.le_refl _, fun _ _ _ => rfl⟩, agree := hag, grow := Still.le_refl _, fresh := fun b hb => .inl hb, names := Places.le_refl _, dom := fun n hn => absurd rfl hn, own := fun n => by simp [OwnAt], new := fun n b c hn => by simp [HB.isOwn] at hn, sep := fun n m b c c' _ hn => by simp [HB.isOwn] at hn }
    · show M F1 noPlaces _ (ys.getD i .junk)
      cases hy : ys[i]? with
      | none => rw [List.getD_eq_getElem?_getD, hy]; exact .junk _ _
      | some y =>
        rw [List.getD_eq_getElem?_getD, hy]
        have hi : i < xs.length := by rw [hz.1]; exact (List.getElem?_eq_some_iff.1 hy).1
        have hx : xs[i]? = some xs[i] := List.getElem?_eq_getElem hi
        have hv : vs[i]? = some (vs[i]'(by omega)) := List.getElem?_eq_getElem (by omega)
        simp only [Array.getD_eq_getD_getElem?, List.getElem?_toArray, hv, Option.getD_some]
        exact hz.2 i _ y hx hy F ρ w _ hown hnone (hm i _ _ hv hx)
  refine upon_calls hrun (hc B' vs w (by rw [hl, hz.1]) rfl hGa) ?_
  intro e w' ⟨v, hev, _, _, F', ρ', hp', hm'⟩
  refine ⟨v, hev, hK _ _ ⟨?_, by rw [put_size]; exact g2, F, ρ, ?_, fun i => ?_⟩⟩
  · simpa [Act.put, hd] using g1
  · have hblk : ∀ b, b < w.heap.size → w'.heap[b]? = w.heap[b]? := fun b hb => hp'.kept.block b hb (fun h => h)
    refine { kept := ⟨hp'.kept.os.trans hp.kept.os, hp'.kept.tape.trans hp.kept.tape, hp'.kept.output.trans hp.kept.output, Nat.le_trans hp.kept.size hp'.kept.size, fun b hb ho => ?_⟩, agree := fun b o hb => ?_, grow := hp.grow, fresh := hp.fresh, names := hp.names, dom := fun n hn => .inl (hp.dom n hn), own := fun n => ?_, new := ?_, sep := ?_ }
    · rw [hblk b (Nat.lt_of_lt_of_le hb hp.kept.size)]; exact hp.kept.block b hb ho
    · rw [hblk b (Array.getElem?_eq_some_iff.1 (hp.agree b o hb)).1]; exact hp.agree b o hb
    · have h1 := hp.own n
      show OwnAt F ρ w' n (h' n)
      cases hh : h' n with
      | dead => trivial
      | fz rows => rw [hh] at h1; exact h1
      | mp l =>
        rw [hh] at h1
        obtain ⟨b, es, clock, h1, h2, h3⟩ := h1
        exact ⟨b, es, clock, h1, by rw [hblk b (Array.getElem?_eq_some_iff.1 h2).1]; exact h2, h3⟩
      | own ex k rows =>
        rw [hh] at h1
        rcases h1 with h1 | ⟨b, cap, c, e, h1, h2, h3, h4, h5, h6⟩
        · exact .inl h1
        · exact .inr ⟨b, cap, c, e, h1, by rw [hblk b (Array.getElem?_eq_some_iff.1 h2).1]; exact h2, h3, h4, h5, h6⟩
    · exact hp.new
    · exact hp.sep
  · rw [hd, put_getD _ _ _ _ (by omega)]
    unfold Eff.t Eff.wT
    by_cases hi : d = i
    · subst hi
      have h0 := hm' 0
      simp only [one, if_true] at h0
      have : M F ρ v r := flat_moved (by simpa using h0) hfl
      simpa using this
    · simpa [hi] using g4 i
end calls
end Go.Ab
namespace Go.Ab
/-- Is a table right? -/
def TabOk (P : Program) : List (Nat × TRec) → Prop
  | [] => True
  | (T, r) :: l => trec P T = some r ∧ TabOk P l
theorem tabOk_look {P : Program} : ∀ {l : List (Nat × TRec)}, TabOk P l → ∀ T r, look l T = some r → trec P T = some r
  | [], _, T, r, h => by cases h
  | (U, s) :: l, hl, T, r, h => by
    unfold look at h
    split at h
    · rename_i e; injection h with h; exact e ▸ h ▸ hl.1
    · exact tabOk_look hl.2 T r h
end Go.Ab
