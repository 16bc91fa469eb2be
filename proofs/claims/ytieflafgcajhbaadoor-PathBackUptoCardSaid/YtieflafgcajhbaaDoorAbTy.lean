/- The abstract layer, 13: what is handed in, told abstractly: a value that can be read is of its type's form. -/
import Derived.Test.YtieflafgcajhbaaDoorAbOwn
import Derived.ProofKit
import Derived.OpenShut
import Derived.ChangeSame
import Derived.ChangeOld
import Derived.SizedLaws
import Derived.Carry
set_option linter.unusedSimpArgs false
set_option linter.unusedVariables false
namespace Go.Ab
open Go.RowKit Go.ChangeShapes

/-- Do these fields lie one behind the other from p on? Where do they end? -/
def tiled (tab : List (Nat × TRec)) : Nat → List (Nat × Nat) → Option Nat
  | p, [] => some p
  | p, (off, t) :: fs => match look tab t with
    | some r => if off = p then tiled tab (p + r.size) fs else none
    | none => none

def TyFs (T : Nat → List AV → Prop) : List (Nat × Nat) → List AV → Prop
  | [], xs => xs = []
  | (_, t) :: fs, xs => ∃ a b, xs = a ++ b ∧ T t a ∧ TyFs T fs b

/-- The abstract cells of a type (n: how deep). -/
def Ty (tab : List (Nat × TRec)) : Nat → Nat → List AV → Prop
  | 0, _, _ => False
  | n + 1, t, xs => match look tab t with
    | none => True
    | some r => match r.kind with
      | .int k => ∃ a, xs = [.v (.int k a)] ∧ (Lit.int k a).wf = true
      | .bool => ∃ b, xs = [.v (.bool b)]
      | .string => ∃ s : List UInt8, xs = [.v (str s)] ∧ s.length ≤ 140737488355328
      | .slice e => match look tab e with
        | none => True
        | some re => re.size ≠ 0 → ∃ rows, xs = [.sl false rows] ∧ rows.length * re.bytes ≤ 140737488355328 ∧ ∀ row, row ∈ rows → Ty tab n e row
      | .struct fs => tiled tab 0 fs = some r.size → TyFs (Ty tab n) fs xs
      | _ => True

/-- Values, each as told. -/
def AllM (F : Still) (ρ : Places) (vs : List Value) (xs : List AV) : Prop := vs.length = xs.length ∧ ∀ (i : Nat) v x, vs[i]? = some v → xs[i]? = some x → M F ρ v x

theorem AllM.nil {F : Still} {ρ : Places} : AllM F ρ [] [] := ⟨rfl, fun i v x h => by cases i <;> cases h⟩
theorem AllM.cons {F : Still} {ρ : Places} {v : Value} {x : AV} {vs : List Value} {xs : List AV} (h : M F ρ v x) (hl : AllM F ρ vs xs) : AllM F ρ (v :: vs) (x :: xs) := by
  refine ⟨by simp [hl.1], fun i u y hu hy => ?_⟩
  cases i with
  | zero => simp at hu hy; subst hu; subst hy; exact h
  | succ i => exact hl.2 i u y (by simpa using hu) (by simpa using hy)
theorem AllM.app {F : Still} {ρ : Places} : ∀ {vs : List Value} {xs : List AV} {us : List Value} {ys : List AV}, AllM F ρ vs xs → AllM F ρ us ys → AllM F ρ (vs ++ us) (xs ++ ys)
  | [], [], _, _, _, h => h
  | v :: vs, x :: xs, us, ys, h, k => by
    refine AllM.cons (h.2 0 v x rfl rfl) (AllM.app ⟨by simpa using h.1, fun i u y hu hy => h.2 (i + 1) u y (by simpa using hu) (by simpa using hy)⟩ k)
  | [], _ :: _, _, _, h, _ => by have := h.1; simp at this
  | _ :: _, [], _, _, h, _ => by have := h.1; simp at this
theorem allM_junk (F : Still) (ρ : Places) : ∀ (vs : List Value), AllM F ρ vs (vs.map fun _ => .junk)
  | [] => AllM.nil
  | v :: vs => AllM.cons (.junk _ v) (allM_junk F ρ vs)

def still (w : World) : Still := fun b => w.heap[b]?

theorem cellsOf_trec {P : Program} {t : Nat} {r : TRec} (h : trec P t = some r) : P.cellsOf t = r.size := by
  obtain ⟨d, i, z, _, hi, _, _, _, hs, _⟩ := trec_spec h
  simp [Program.cellsOf, hi, hs]
theorem bytesOf_trec {P : Program} {t : Nat} {r : TRec} (h : trec P t = some r) : P.bytesOf t = r.bytes := by
  obtain ⟨d, i, z, _, hi, _, _, _, _, hs, _⟩ := trec_spec h
  simp [Program.bytesOf, hi, hs]

theorem cell_block {w : World} {b o : Nat} {u : Value} {s : Option Nat} (h : w.cell? ⟨b, o, none⟩ = some u) : ∃ c e fr, w.heap[b]? = some (.cells c e fr) ∧ c[o]? = some u := by
  unfold World.cell? at h
  split at h
  · rename_i c e fr hb
    exact ⟨c, e, fr, hb, by simpa using h⟩
  · cases h

theorem weightsAll_mem {H : Type} {P : Program} {e : TypeId} {d : DataW H} {m : Nat} : ∀ {l : List (DataW H)}, d ∈ l → m ∈ d.weights P e → m ∈ DataW.weightsAll P e l
  | x :: l, h, hm => by
    simp only [DataW.weightsAll, List.mem_append]
    rcases List.mem_cons.1 h with rfl | h
    · exact .inl hm
    · exact .inr (weightsAll_mem h hm)

section
variable {H : Type} {enc : TypeId × Value → H} {w : World} {sp : Nat → Bool} {held : Bool}

theorem trod_M (C : Cx) : ∀ (n : Nat) (t : Nat) (cs : List Value) (x : DataW H × List MemPlace), DataW.trod enc C.P w 0 sp held n t cs = some x → (∀ m, m ∈ x.1.weights C.P t → m ≤ 140737488355328) →
    ∃ xs : List AV, AllM (still w) noPlaces cs xs ∧ Ty C.tab n t xs
  | 0, t, cs, x, h, _ => by simp [DataW.trod] at h
  | n + 1, t, cs, x, h, hw => by
    have junk : Ty C.tab (n + 1) t (cs.map fun _ => .junk) → ∃ xs : List AV, AllM (still w) noPlaces cs xs ∧ Ty C.tab (n + 1) t xs := fun h => ⟨_, allM_junk _ _ cs, h⟩
    cases hl : look C.tab t with
    | none => exact junk (by simp [Ty, hl])
    | some r =>
      have hr := C.ok t r hl
      obtain ⟨d, inf, z, hu, hi, _, hk, _, _, _⟩ := trec_spec hr
      cases hkk : r.kind with
      | int k =>
        rw [hkk] at hk
        cases d <;> simp only [kindOf, reduceCtorEq] at hk
        injection hk with hk
        subst hk
        obtain ⟨a, rfl, _, hwf⟩ := DataW.trod_int hu h
        exact ⟨[.v (.int k a)], AllM.cons (.v _ _ rfl) AllM.nil, by simp only [Ty, hl, hkk]; exact ⟨a, rfl, hwf⟩⟩
      | bool =>
        rw [hkk] at hk
        cases d <;> simp only [kindOf, reduceCtorEq] at hk
        obtain ⟨b, rfl, _⟩ := DataW.trod_bool hu h
        exact ⟨[.v (.bool b)], AllM.cons (.v _ _ rfl) AllM.nil, by simp only [Ty, hl, hkk]; exact ⟨b, rfl⟩⟩
      | string =>
        rw [hkk] at hk
        cases d <;> simp only [kindOf, reduceCtorEq] at hk
        obtain ⟨s, rfl, rfl, _⟩ := DataW.trod_string hu h
        refine ⟨[.v (.string s)], AllM.cons (.v _ _ rfl) AllM.nil, ?_⟩
        simp only [Ty, hl, hkk]
        exact ⟨s.data.toList, rfl, hw _ (by simp [DataW.weights])⟩
      | slice e =>
        rw [hkk] at hk
        cases d with
        | slice e' =>
          simp only [kindOf, TK.slice.injEq] at hk
          subst hk
          cases he : look C.tab e with
          | none => exact junk (by simp [Ty, hl, hkk, he])
          | some re =>
            have hsz := cellsOf_trec (C.ok e re he)
            have hby := bytesOf_trec (C.ok e re he)
            by_cases h0 : re.size = 0
            · exact junk (by simp [Ty, hl, hkk, he, h0])
            · rcases DataW.trod_slice hu h with ⟨rfl, _⟩ | ⟨a, len, cap, elems, rest, n', hn', rfl, rfl, _, hle, _, hel1, hel0, _, _⟩
              · refine ⟨[.sl false []], AllM.cons (.sl0 _ none 0 false (fun e => by cases e) (fun _ => rfl)) AllM.nil, ?_⟩
                simp only [Ty, hl, hkk, he]
                exact fun _ => ⟨[], rfl, by simp, fun row h => by cases h⟩
              · injection hn' with hn'
                subst hn'
                have hel : ∀ i, i < len → ∃ row : List AV, (∃ cs', w.cells? 0 (a.add (i * re.size)) re.size = some cs' ∧ AllM (still w) noPlaces cs' row) ∧ Ty C.tab n e row := by
                  intro i hi
                  have h0 := hel0 i hi
                  rw [List.getElem?_eq_getElem (by omega)] at h0
                  obtain ⟨cs', h1, h2⟩ := Option.bind_eq_some_iff.1 h0
                  obtain ⟨row, h3, h4⟩ := trod_M C n e cs' _ h2 (fun q hq => hw q (by
                    simp only [DataW.weights, hu, List.mem_cons, List.mem_append]
                    exact .inr (.inl (weightsAll_mem (List.mem_map.2 ⟨_, List.getElem_mem _, rfl⟩) hq))))
                  rw [hsz] at h1
                  exact ⟨row, ⟨cs', h1, h3⟩, h4⟩
                let f : Nat → List AV := fun i => if hi : i < len then Classical.choose (hel i hi) else []
                have hf : ∀ i, i < len → (∃ cs', w.cells? 0 (a.add (i * re.size)) re.size = some cs' ∧ AllM (still w) noPlaces cs' (f i)) ∧ Ty C.tab n e (f i) := fun i hi => by
                  have e : f i = Classical.choose (hel i hi) := dif_pos hi
                  rw [e]; exact Classical.choose_spec (hel i hi)
                have hlen : ((List.range len).map f).length = len := by simp
                have hget : ∀ (i : Nat) row, ((List.range len).map f)[i]? = some row → i < len ∧ row = f i := fun i row hi => by
                  have : i < len := by have := (List.getElem?_eq_some_iff.1 hi).1; simpa using this
                  rw [List.getElem?_map, List.getElem?_range this] at hi
                  exact ⟨this, by simpa using hi.symm⟩
                refine ⟨[.sl false ((List.range len).map f)], AllM.cons ?_ AllM.nil, ?_⟩
                · by_cases hl0 : len = 0
                  · subst hl0; exact .sl0 _ (some a) cap false (fun e => by cases e) (fun e => by cases e)
                  · obtain ⟨⟨cs0, hc0, _⟩, _⟩ := hf 0 (by omega)
                    obtain ⟨_, hcl0, hat0⟩ := World.cells?_some hc0
                    obtain ⟨ba, oa, sa⟩ := a
                    have h00 := hat0 0 (by omega)
                    rw [List.getElem?_eq_getElem (by omega)] at h00
                    have hspot : sa = none := by have := World.cell?_spot h00; simpa [Addr.add] using this
                    subst hspot
                    have hadd : ∀ oa k, (⟨ba, oa, none⟩ : Addr).add k = ⟨ba, oa + k, none⟩ := fun oa k => by
                      unfold Addr.add; split
                      · rename_i h; subst h; rfl
                      · rfl
                    simp only [hadd] at h00
                    obtain ⟨c, el, fr, hblk, _⟩ := cell_block (s := none) h00
                    have hcell : ∀ i j, i < len → j < re.size → ∀ cs', w.cells? 0 ((⟨ba, oa, none⟩ : Addr).add (i * re.size)) re.size = some cs' → c[oa + i * re.size + j]? = cs'[j]? := by
                      intro i j hi hj cs' hcs
                      obtain ⟨_, hcl, hat'⟩ := World.cells?_some hcs
                      have h1 := hat' j hj
                      simp only [hadd] at h1
                      unfold World.cell? at h1
                      simpa [hblk] using h1
                    have hlast : oa + len * re.size ≤ c.size := by
                      obtain ⟨⟨cs1, hc1, _⟩, _⟩ := hf (len - 1) (by omega)
                      have h1 := hcell (len - 1) (re.size - 1) (by omega) (by omega) cs1 hc1
                      obtain ⟨_, hcl1, _⟩ := World.cells?_some hc1
                      rw [List.getElem?_eq_getElem (by omega)] at h1
                      have h2 := (Array.getElem?_eq_some_iff.1 h1).1
                      have h3 : (len - 1) * re.size + re.size = len * re.size := by
                        rw [← Nat.succ_mul]; congr 1; omega
                      omega
                    have := M.sl (F := still w) noPlaces ba oa cap c el fr false re.size ((List.range len).map f) hblk (by rw [hlen]; exact hle) (fun e => by cases e) (by rw [hlen]; exact hlast)
                      (fun row hrow => by
                        obtain ⟨i, hi, rfl⟩ := List.mem_map.1 hrow
                        obtain ⟨⟨cs', h1, h2⟩, _⟩ := hf i (List.mem_range.1 hi)
                        rw [← h2.1, (World.cells?_some h1).2.1])
                      (fun i j row y v hi hj hv => by
                        obtain ⟨hil, rfl⟩ := hget i row hi
                        obtain ⟨⟨cs', h1, h2⟩, _⟩ := hf i hil
                        have hjl : j < re.size := by
                          have := (List.getElem?_eq_some_iff.1 hj).1
                          rw [← h2.1, (World.cells?_some h1).2.1] at this; exact this
                        exact h2.2 j v y (by rw [← hcell i j hil hjl cs' h1]; exact hv) hj)
                    rw [hlen] at this
                    exact this
                · simp only [Ty, hl, hkk, he]
                  intro _
                  refine ⟨_, rfl, ?_, fun row hrow => ?_⟩
                  · rw [hlen]
                    have := hw (((elems.map (·.1)).length + (rest.map (·.1)).length) * C.P.bytesOf e) (by simp [DataW.weights, hu])
                    rw [hby, List.length_map, hel1] at this
                    exact Nat.le_trans (Nat.mul_le_mul_right _ (by omega)) this
                  · obtain ⟨i, hi, rfl⟩ := List.mem_map.1 hrow
                    exact (hf i (List.mem_range.1 hi)).2
        | _ => simp only [kindOf, reduceCtorEq] at hk
      | struct fs =>
        rw [hkk] at hk
        cases d with
        | struct fds =>
          simp only [kindOf, TK.struct.injEq] at hk
          obtain ⟨ys, n', hn', rfl, hcl, hyl, hfd⟩ := DataW.trod_struct hu h
          injection hn' with hn'
          subst hn'
          by_cases ht : tiled C.tab 0 fs = some r.size
          · have key : ∀ (l : List Field) (p : Nat), tiled C.tab p (l.map fun f => (f.offset, f.type)) = some r.size → (∀ f, f ∈ l → ∃ y, DataW.trod enc C.P w 0 sp held n f.type ((cs.drop f.offset).take (C.P.cellsOf f.type)) = some y ∧ ∀ m, m ∈ y.1.weights C.P f.type → m ≤ 140737488355328) →
                ∃ xs, AllM (still w) noPlaces (cs.drop p) xs ∧ TyFs (Ty C.tab n) (l.map fun f => (f.offset, f.type)) xs := by
              intro l
              induction l with
              | nil =>
                intro p hp _
                simp only [List.map_nil, tiled, Option.some.injEq] at hp
                refine ⟨[], ?_, rfl⟩
                rw [List.drop_eq_nil_of_le (by rw [hcl, cellsOf_trec hr]; omega)]
                exact AllM.nil
              | cons f l ih =>
                intro p hp hall
                simp only [List.map_cons, tiled] at hp
                split at hp
                · rename_i rf hrf
                  split at hp
                  · rename_i hoff
                    obtain ⟨y, hy, hyw⟩ := hall f (List.mem_cons_self ..)
                    obtain ⟨a, ha1, ha2⟩ := trod_M C n f.type _ y hy hyw
                    obtain ⟨b, hb1, hb2⟩ := ih _ hp (fun g hg => hall g (List.mem_cons_of_mem _ hg))
                    refine ⟨a ++ b, ?_, a, b, rfl, ha2, hb2⟩
                    rw [hoff, cellsOf_trec (C.ok _ _ hrf)] at ha1
                    have := AllM.app ha1 hb1
                    rw [← List.drop_drop, List.take_append_drop] at this
                    exact this
                  · cases hp
                · cases hp
            obtain ⟨xs, h1, h2⟩ := key fds.toList 0 (by rw [← hk]; exact ht) (by
              intro f hf
              obtain ⟨j, hj⟩ := List.mem_iff_getElem?.1 hf
              have hj' : fds[j]? = some f := by simpa using hj
              have h3 := hfd j f hj'
              have hjl : j < ys.length := by rw [hyl]; exact (Array.getElem?_eq_some_iff.1 hj').1
              rw [List.getElem?_eq_getElem hjl] at h3
              refine ⟨_, h3, fun m hm => hw m ?_⟩
              simp only [DataW.weights, hu]
              exact DataW.weights_mem_each (j := j) (t := f.type) (d := ys[j].1) (by simp [hj]) (by simp [List.getElem?_eq_getElem hjl]) m hm)
            refine ⟨xs, by simpa using h1, ?_⟩
            simp only [Ty, hl, hkk]
            intro _
            rw [hk]; exact h2
          · exact junk (by simp [Ty, hl, hkk, ht])
        | _ => simp only [kindOf, reduceCtorEq] at hk
      | pointer e => exact junk (by simp [Ty, hl, hkk])
      | array a b => exact junk (by simp [Ty, hl, hkk])
      | map a b => exact junk (by simp [Ty, hl, hkk])
      | other => exact junk (by simp [Ty, hl, hkk])
end
end Go.Ab
