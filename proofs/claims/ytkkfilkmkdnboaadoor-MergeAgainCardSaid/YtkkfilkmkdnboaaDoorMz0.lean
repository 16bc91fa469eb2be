import Derived.Test.YtkkfilkmkdnboaaDoorLyB
import Derived.MapKept
/- The abstract layer, 16: maps with string keys. -/
set_option linter.unusedSimpArgs false
set_option linter.unusedVariables false
namespace Go.Ab
open Go.RowKit

/-- An entry put: in the place of what has that key, or behind all. -/
def mapPut (l : List (List UInt8 × AV)) (s : List UInt8) (x : AV) : List (List UInt8 × AV) :=
  match l.findIdx? (fun e => e.1 == s) with
  | some j => l.set j (s, x)
  | none => l ++ [(s, x)]

theorem mapPut_nil (s : List UInt8) (x : AV) : mapPut [] s x = [(s, x)] := rfl
theorem mapPut_cons (e : List UInt8 × AV) (l : List (List UInt8 × AV)) (s : List UInt8) (x : AV) : mapPut (e :: l) s x = if e.1 = s then (s, x) :: l else e :: mapPut l s x := by
  unfold mapPut
  rw [List.findIdx?_cons]
  by_cases h : e.1 = s
  · rw [if_pos (by simpa using h), if_pos h]; rfl
  · rw [if_neg (by simpa using h), if_neg h]
    cases List.findIdx? (fun e => e.1 == s) l with
    | none => rfl
    | some j => rfl
/-- All entries but one. -/
def mapDel (l : List (List UInt8 × AV)) (s : List UInt8) : List (List UInt8 × AV) := l.filter fun e => decide (e.1 ≠ s)
theorem mapDel_none {s : List UInt8} : ∀ {l : List (List UInt8 × AV)}, s ∉ l.map (·.1) → mapDel l s = l := fun h => List.filter_eq_self.2 fun e he => by
  have : e.1 ≠ s := fun h' => h (h' ▸ List.mem_map.2 ⟨e, he, rfl⟩)
  simpa using this
theorem mapPut_perm {s : List UInt8} {x : AV} : ∀ {l : List (List UInt8 × AV)}, (l.map (·.1)).Nodup → (mapPut l s x).Perm ((s, x) :: mapDel l s)
  | [], _ => .refl _
  | e :: l, h => by
    rw [List.map_cons, List.nodup_cons] at h
    rw [mapPut_cons]
    by_cases he : e.1 = s
    · rw [if_pos he]
      have : mapDel (e :: l) s = l := by
        unfold mapDel
        rw [List.filter_cons_of_neg (by simpa using he)]
        exact mapDel_none (he ▸ h.1)
      rw [this]
    · rw [if_neg he]
      have : mapDel (e :: l) s = e :: mapDel l s := by
        unfold mapDel
        rw [List.filter_cons_of_pos (by simpa using he)]
      rw [this]
      exact ((mapPut_perm h.2).cons e).trans (.swap _ _ _)
theorem mapPut_cong {l l' : List (List UInt8 × AV)} (s : List UInt8) (x : AV) (hp : l'.Perm l) (h : (l'.map (·.1)).Nodup) : (mapPut l' s x).Perm (mapPut l s x) :=
  (mapPut_perm h).trans (((hp.filter _).cons _).trans (mapPut_perm ((hp.map _).nodup_iff.1 h)).symm)
/-- What stands under a key. -/
def mapGet (l : List (List UInt8 × AV)) (s : List UInt8) : Option AV := (l.find? fun e => e.1 == s).map (·.2)
theorem mapGet_mem {l : List (List UInt8 × AV)} (h : (l.map (·.1)).Nodup) {s : List UInt8} {x : AV} : mapGet l s = some x ↔ (s, x) ∈ l := by
  induction l with
  | nil => simp [mapGet]
  | cons e l ih =>
    rw [List.map_cons, List.nodup_cons] at h
    unfold mapGet at ih ⊢
    rw [List.find?_cons]
    by_cases he : e.1 = s
    · rw [show (e.1 == s) = true from by simpa using he]
      simp only [Option.map_some, Option.some.injEq, List.mem_cons]
      constructor
      · rintro rfl; exact .inl (by rw [← he])
      · rintro (h1 | h1)
        · rw [← h1]
        · exact absurd (he ▸ List.mem_map.2 ⟨_, h1, rfl⟩ : e.1 ∈ l.map (·.1)) h.1
    · rw [show (e.1 == s) = false from by simpa using he]
      simp only [List.mem_cons]
      rw [ih h.2]
      constructor
      · exact .inr
      · rintro (h1 | h1)
        · exact absurd (by rw [← h1]) he
        · exact h1
theorem mapGet_cong {l l' : List (List UInt8 × AV)} (s : List UInt8) (hp : l'.Perm l) (h : (l'.map (·.1)).Nodup) : mapGet l' s = mapGet l s := by
  have h2 := (hp.map (·.1)).nodup_iff.1 h
  apply Option.ext
  intro x
  rw [mapGet_mem h, mapGet_mem h2, hp.mem_iff]

theorem str_inj {a b : List UInt8} : (Value.string ⟨a.toArray⟩ = Value.string ⟨b.toArray⟩) ↔ a = b := by simp

theorem find_spec (s : List UInt8) : ∀ (es : List MapEntry) (l : List (List UInt8 × AV)) (i : Nat), es.length = l.length → (∀ (j : Nat) e x, es[j]? = some e → l[j]? = some x → e.key = .string ⟨x.1.toArray⟩) →
    (l.findIdx? (fun e => e.1 == s) = none ∧ Instr.findNow .string (.string ⟨s.toArray⟩) es i = some none) ∨
    ∃ j e, l.findIdx? (fun e => e.1 == s) = some j ∧ es[j]? = some e ∧ e.key = .string ⟨s.toArray⟩ ∧ Instr.findNow .string (.string ⟨s.toArray⟩) es i = some (some (i + j, e.val))
  | [], [], i, _, _ => .inl ⟨rfl, rfl⟩
  | e :: es, x :: l, i, hl, hk => by
    have h0 := hk 0 e x rfl rfl
    obtain ⟨r, hr, hiff⟩ := Go.MapKept.sameNow_of_keys (d := .string) (a := .string ⟨s.toArray⟩) (b := e.key) trivial (by rw [h0]; trivial)
    have hx : (x.1 == s) = r := by
      rw [h0, str_inj] at hiff
      rw [Bool.eq_iff_iff, hiff]
      constructor
      · intro h; exact (beq_iff_eq.1 h).symm
      · intro h; exact beq_iff_eq.2 h.symm
    cases r with
    | true => exact .inr ⟨0, e, by simp [List.findIdx?_cons, hx], rfl, (hiff.1 rfl).symm, by simp [Instr.findNow, hr]⟩
    | false =>
      rcases find_spec s es l (i + 1) (by simpa using hl) (fun j e' x' h1 h2 => hk (j + 1) e' x' (by simpa using h1) (by simpa using h2)) with ⟨h1, h2⟩ | ⟨j, e', h1, h2, h3, h4⟩
      · exact .inl ⟨by simp [List.findIdx?_cons, hx, h1], by simp [Instr.findNow, hr, h2]⟩
      · exact .inr ⟨j + 1, e', by simp [List.findIdx?_cons, hx, h1], by simpa using h2, h3, by simp [Instr.findNow, hr, h4]; omega⟩
  | [], _ :: _, _, hl, _ => by simp at hl
  | _ :: _, [], _, hl, _ => by simp at hl

theorem map_spec {P : Program} {T : Nat} {r : TRec} {k e : Nat} (hT : trec P T = some r) (he : r.kind = .map k e) : P.underlying T = some (.map k e) := by
  obtain ⟨dd, i, z, hd, _, _, hk, _⟩ := trec_spec hT
  rw [he] at hk
  cases dd <;> simp [kindOf] at hk
  obtain ⟨rfl, rfl⟩ := hk
  exact hd

section ops
variable {C : Cx} {N d : Nat} {ty : TypeId} {pos : String} {af : Array Edge} {gd : Option (Nat × Bool)} {t : Nat → AV} {h : Nat → HB}

theorem M.mp_inv {F : Still} {ρ : Places} {v : Value} {n : Nat} (hm : M F ρ v (.mp n)) : ∃ b, v = .map (some b) ∧ ρ n = some (some (b, 0, 0)) := by
  cases hm with | mp _ _ b hn => exact ⟨b, rfl, hn⟩

theorem ex_makeMap (T : TypeId) (m : Nat) (hN : d < N) : ExOk C.P N ⟨some d, .makeMap T none, ty, pos, af, gd⟩ t h ⟨[], [], some d, .mp m, [(m, .mp (.map []))], [m]⟩ := by
  refine ex_writeX (ks := []) [] [] m (.mp (.map [])) [m] (fun d' hd' => by injection hd' with e; exact e ▸ hN) (.inl rfl) (by simp) ?_
  intro B A h' F ρ a w hp hm hh hfr
  have hρ : ρ m = none := hfr m (by simp)
  refine ⟨.value (.map (some w.heap.size)), w.alloc (.map #[] 0), some (w.heap.size, 0, 0), none, ?_, .inr ⟨_, rfl, .mp _ m _ (by simp)⟩, .inl hρ, hp.kept.alloc _, (fun b hb => by cases hb), fun b hb _ => heap_alloc_old w _ b hb, (fun b c hb => by simp only [Option.some.injEq, Prod.mk.injEq] at hb; exact .inr (by omega)), ⟨w.heap.size, .map #[] 0, (), by simp, heap_alloc_new w _, #[], 0, rfl, [], .refl _, rfl, List.nodup_nil, Go.MapKept.stamped_empty 0, fun i e x he => by simp at he⟩, (fun h => by cases h)⟩
  simp [execOp, run_makeMap]

theorem ex_len_mp (argT ty' : Nat) (x : Operand) (n : Nat) (l : List (List UInt8 × AV)) (k e : Nat) (r : TRec) (hx : evA t x = .mp n) (hn : h n = .mp l) (hT : look C.tab argT = some r) (he : r.kind = .map k e) (hN : d < N) :
    ExOk C.P N ⟨some d, .call ⟨.builtin .len, #[x], #[argT]⟩, ty', pos, af, gd⟩ t h ⟨opT x, [n], some d, .v (.int .i64 (l.length : Int)), [], []⟩ :=
  ex_pure _ _ rfl hN fun F ρ a w _ hs hh => by
    have h1 := evA_sound (x := x) hs (fun j hj => hj)
    rw [hx] at h1
    obtain ⟨b, hv, hρ⟩ := h1.mp_inv
    have ho := hh n (by simp)
    rw [hn] at ho
    obtain ⟨b', _, _, h2, h3, es, clock, rfl, l0, h40, h41⟩ := ho
    have h4 : es.size = l.length := h41.len.trans h40.length_eq
    rw [hρ] at h2; simp only [Option.some.injEq, Prod.mk.injEq] at h2
    obtain ⟨rfl, _⟩ := h2
    have hu := map_spec (C.ok _ r hT) he
    refine ⟨.int .i64 (l.length : Int), ?_, .v _ _ rfl⟩
    simp [execOp, resolve, invoke, builtin, Builtin.len_, hv, run_underlying hu, Go.MapKept.run_getObj_map h3, goInt, h4]

theorem ex_mapUpdate (T kT e : Nat) (xm xk xv : Operand) (n : Nat) (l : List (List UInt8 × AV)) (s : List UInt8) (x : AV) (r rk : TRec) (hm : evA t xm = .mp n) (hn : h n = .mp l) (hk : evA t xk = .v (str s)) (hv : evA t xv = x) (hT : look C.tab T = some r) (he : r.kind = .map kT e) (hK : look C.tab kT = some rk) (hks : rk.kind = .string) :
    ExOk C.P N ⟨none, .mapUpdate T xm xk xv, ty, pos, af, gd⟩ t h ⟨opT xm ++ (opT xk ++ opT xv), [n], none, .junk, [(n, .mp (mapPut l s x))], []⟩ := by
  refine ex_writeX (ks := []) _ _ n (.mp (mapPut l s x)) [] (fun d' hd' => by cases hd') (.inr rfl) (by simp) ?_
  intro B A h' F ρ a w hp hmm hh _
  have h1 := evA_sound (x := xm) hmm (fun j hj => List.mem_append_left _ hj)
  have h2 := evA_sound (x := xk) hmm (fun j hj => List.mem_append_right _ (List.mem_append_left _ hj))
  have h3 := evA_sound (x := xv) hmm (fun j hj => List.mem_append_right _ (List.mem_append_right _ hj))
  rw [hm] at h1; rw [hk] at h2; rw [hv] at h3
  obtain ⟨h2, _⟩ := h2.v_inv
  obtain ⟨b, hv1, hρ⟩ := h1.mp_inv
  have hn' : h' n = .mp l := (hh n (by simp)).trans hn
  have ho := hp.own n
  rw [hn'] at ho
  obtain ⟨b', _, _, h5, h6, es, clock, rfl, l0, hperm, h78⟩ := ho
  have h7 := h78.len
  have h8 := h78.ents
  rw [hρ] at h5; simp only [Option.some.injEq, Prod.mk.injEq] at h5
  obtain ⟨rfl, _⟩ := h5
  have hu := map_spec (C.ok _ r hT) he
  have hku := string_spec (C.ok _ rk hK) hks
  have hpl : (fun m => if m = n then some (some (b, 0, 0)) else ρ m) = ρ := by
    funext m; by_cases hmn : m = n
    · subst hmn; simp [hρ]
    · simp [hmn]
  have hnew := (hp.new n b _ (by rw [hn']; rfl) hρ)
  have hkey := Go.MapKept.run_checkKey (P := C.P) (w := w) hku (k := .string ⟨s.toArray⟩) trivial false 9999
  -- the world behind it, whatever the entries are
  have fin : ∀ (es' : Array MapEntry) (clock' : Nat), (Instr.mapUpdate T (.map (some b)) (.string ⟨s.toArray⟩) (a.eval xv)).run C.P w = .ok () { w with heap := w.heap.setIfInBounds b (.map es' clock') } → MapIn F ρ es' clock' (mapPut l0 s x) →
      ∃ v w' pl tb, (execOp a.eval ⟨none, .mapUpdate T xm xk xv, ty, pos, af, gd⟩).run C.P w = .ok v w' ∧ (v = .skip ∧ (⟨none, .mapUpdate T xm xk xv, ty, pos, af, gd⟩ : Oper).dst = none ∨ ∃ u, v = .value u ∧ M F (fun m => if m = n then some pl else ρ m) u .junk) ∧
        (ρ n = none ∨ ρ n = some pl) ∧ B.kept w' ∧ (∀ b, tb = some b → ∃ n0 c, (n0 = n ∨ ([] : List Nat)[0]? = some n0) ∧ (h' n0).isOwn = true ∧ ρ n0 = some (some (b, c))) ∧
        (∀ b, b < w.heap.size → tb ≠ some b → w'.heap[b]? = w.heap[b]?) ∧ (∀ b c, pl = some (b, c) → tb = some b ∨ w.heap.size ≤ b) ∧
        OwnAt F (fun m => if m = n then some pl else ρ m) w' n (.mp (mapPut l s x)) ∧ (([] : List Nat) = [] → ρ n ≠ none) := by
    intro es' clock' hrun hmap
    obtain ⟨hs1, hs2⟩ := Go.MapKept.heap_set (o' := .map es' clock') h6
    refine ⟨.skip, { w with heap := w.heap.setIfInBounds b (.map es' clock') }, some (b, 0, 0), some b, ?_, .inl ⟨rfl, rfl⟩, .inr hρ, ?_, ?_, ?_, ?_, ?_, fun _ => by rw [hρ]; simp⟩
    · have h2' : a.eval xk = .string ⟨s.toArray⟩ := h2
      simp [execOp, hv1, h2', hrun]
    · refine ⟨hp.kept.os, hp.kept.tape, hp.kept.output, by simpa using hp.kept.size, fun b' hb' ho' => ?_⟩
      rw [hs2 b' (by rintro rfl; rcases hnew.2 with hq | hq; · omega
                     · exact ho' hq)]
      exact hp.kept.block b' hb' ho'
    · intro b' hb'
      simp only [Option.some.injEq] at hb'
      subst hb'
      exact ⟨n, _, .inl rfl, by rw [hn']; rfl, hρ⟩
    · intro b' _ hb'
      exact hs2 b' (fun e => hb' (by rw [e]))
    · intro b' c'' he
      simp only [Option.some.injEq, Prod.mk.injEq] at he
      exact .inl (by rw [he.1])
    · rw [hpl]
      exact ⟨b, _, (), hρ, hs1, es', clock', rfl, _, mapPut_cong s x hperm h78.nodup, hmap⟩
  rcases find_spec s es.toList l0 0 (by simpa using h7) (fun j e' x' h1 h2 => (h8 j e' x' (by simpa using h1) h2).1) with ⟨h9, h10⟩ | ⟨j, e0, h9, h10, h11, h12⟩
  · have hput : mapPut l0 s x = l0 ++ [(s, x)] := by unfold mapPut; rw [h9]
    refine fin (es.push ⟨.string ⟨s.toArray⟩, a.eval xv, clock⟩) (clock + 1) ?_ ?_
    · simp [Instr.mapUpdate, run_underlying hu, Go.MapKept.run_getObj_map h6, hkey, Go.MapKept.run_findKey hku h10, Go.MapKept.run_setObj_map _ h6]
    · rw [hput]
      have hno : s ∉ l0.map (·.1) := fun hm => by
        obtain ⟨e1, he1, he2⟩ := List.mem_map.1 hm
        have := List.findIdx?_eq_none_iff.1 h9 e1 he1
        rw [he2] at this
        simp at this
      refine ⟨by simp [h7], ?_, Go.MapKept.stamped_push h78.stamp (fun e1 he1 hk1 => ?_), fun i e' x' hi hx' => ?_⟩
      · rw [List.map_append, List.nodup_append]
        refine ⟨h78.nodup, by simp, fun y hy z hz => ?_⟩
        simp only [List.map_cons, List.map_nil, List.mem_singleton] at hz
        subst hz
        exact fun e1 => hno (e1 ▸ hy)
      · obtain ⟨i, hi, rfl⟩ := List.getElem_of_mem he1
        have hi' : i < es.size := by simpa using hi
        have hx0 := List.getElem?_eq_getElem (l := l0) (i := i) (by omega)
        have h1 := (h8 i _ _ (Array.getElem?_eq_getElem hi') hx0).1
        rw [Array.getElem_toList] at hk1
        rw [hk1, str_inj] at h1
        exact hno (h1 ▸ List.mem_map.2 ⟨_, List.getElem_mem _, rfl⟩)
      by_cases hil : i < l0.length
      · rw [Array.getElem?_push, if_neg (by omega)] at hi
        rw [List.getElem?_append_left hil] at hx'
        exact h8 i e' x' hi hx'
      · have : i = l0.length := by have := (List.getElem?_eq_some_iff.1 hx').1; simp at this; omega
        subst this
        rw [← h7, Array.getElem?_push_size] at hi
        simp at hi hx'
        subst hi; subst hx'
        exact ⟨rfl, h3⟩
  · have hput : mapPut l0 s x = l0.set j (s, x) := by unfold mapPut; rw [h9]
    have hj : es[j]? = some e0 := by simpa using h10
    have hjl : j < es.size := (Array.getElem?_eq_some_iff.1 hj).1
    rw [Nat.zero_add] at h12
    refine fin (es.modify j fun e => { e with key := .string ⟨s.toArray⟩, val := a.eval xv }) clock ?_ ?_
    · have hsb : Instr.sameBits 10000 (.string ⟨s.toArray⟩) (.string ⟨s.toArray⟩) = true := Go.MapKept.sameBits_self (d := .string) (k := .string ⟨s.toArray⟩) trivial _
      simp [Instr.mapUpdate, run_underlying hu, Go.MapKept.run_getObj_map h6, hkey, Go.MapKept.run_findKey hku h12, Go.MapKept.run_setObj_map _ h6, Instr.keyThatStays, hj, h11, hsb]
    · rw [hput]
      have hx0 := List.getElem?_eq_getElem (l := l0) (i := j) (by omega)
      have hk0 : l0[j].1 = s := by
        have h1 := (h8 j e0 _ hj hx0).1
        rw [h11, str_inj] at h1
        exact h1.symm
      refine ⟨by simp [h7], ?_, Go.MapKept.stamped_modify h78.stamp j _ (fun e1 _ => rfl) (fun e1 _ he1 => ?_), fun i e' x' hi hx' => ?_⟩
      · rw [List.map_set]
        have : (l0.map (·.1)).set j s = l0.map (·.1) := by
          apply List.ext_getElem?
          intro i
          rw [List.getElem?_set]
          split
          · rename_i hij
            subst hij
            rw [if_pos (by simp; omega), List.getElem?_map, hx0, Option.map_some, hk0]
          · rfl
        rw [this]
        exact h78.nodup
      · rw [hj] at he1
        injection he1 with he1
        rw [← he1]; exact h11.symm
      rw [Array.getElem?_modify] at hi
      by_cases hij : j = i
      · subst hij
        rw [if_pos rfl, hj] at hi
        rw [List.getElem?_set_self (by omega)] at hx'
        simp at hi hx'
        subst hi; subst hx'
        exact ⟨rfl, h3⟩
      · rw [if_neg hij] at hi
        rw [List.getElem?_set_ne hij] at hx'
        exact h8 i e' x' hi hx'

theorem zero_is {P : Program} {T : Nat} {z : Value} (h : ∀ w, (zeroValue T).run P w = .ok z w) : ∀ w, (zeroValue T).run P w = .ok z w := h
theorem ex_lookup (T kT e : Nat) (xm xk : Operand) (ok : Bool) (n : Nat) (l : List (List UInt8 × AV)) (s : List UInt8) (zv : Value) (z : AV) (r rk : TRec) (hm : evA t xm = .mp n) (hn : h n = .mp l) (hk : evA t xk = .v (str s)) (hT : look C.tab T = some r) (he : r.kind = .map kT e) (hK : look C.tab kT = some rk) (hks : rk.kind = .string)
    (hz : ∀ w, (zeroValue e).run C.P w = .ok zv w) (hzv : ∀ F ρ, M F ρ zv z) (hN : d < N) :
    ExOk C.P N ⟨some d, .lookup T xm xk ok, ty, pos, af, gd⟩ t h ⟨opT xm ++ opT xk, [n], some d, (if ok then .tup [(mapGet l s).getD z, .v (.bool (mapGet l s).isSome)] else (mapGet l s).getD z), [], []⟩ :=
  ex_pure _ _ rfl hN fun F ρ a w _ hs hh => by
    have h1 := evA_sound (x := xm) hs (fun j hj => List.mem_append_left _ hj)
    have h2 := evA_sound (x := xk) hs (fun j hj => List.mem_append_right _ hj)
    rw [hm] at h1; rw [hk] at h2
    obtain ⟨h2, _⟩ := h2.v_inv
    have h2' : a.eval xk = .string ⟨s.toArray⟩ := h2
    obtain ⟨b, hv, hρ⟩ := h1.mp_inv
    have ho := hh n (by simp)
    rw [hn] at ho
    obtain ⟨b', _, _, h5, h6, es, clock, rfl, l0, hperm, h78⟩ := ho
    rw [hρ] at h5; simp only [Option.some.injEq, Prod.mk.injEq] at h5
    obtain ⟨rfl, _⟩ := h5
    have hu := map_spec (C.ok _ r hT) he
    have hku := string_spec (C.ok _ rk hK) hks
    have hkey := Go.MapKept.run_checkKey (P := C.P) (w := w) hku (k := .string ⟨s.toArray⟩) trivial es.isEmpty 9999
    rw [← mapGet_cong s hperm h78.nodup]
    have mk2 : ∀ (v : Value) (x : AV) (b : Bool), M F ρ v x → M F ρ (if ok then .tuple #[v, .bool b] else v) (if ok then .tup [x, .v (.bool b)] else x) := fun v x b hx => by
      cases ok with
      | false => exact hx
      | true =>
        refine .tup _ [v, .bool b] _ rfl fun i u y hu hy => ?_
        match i with
        | 0 => simp at hu hy; subst hu; subst hy; exact hx
        | 1 => simp at hu hy; subst hu; subst hy; exact .v _ _ rfl
        | i + 2 => simp at hu
    rcases find_spec s es.toList l0 0 (by simpa using h78.len) (fun j e' x' h1 h2 => (h78.ents j e' x' (by simpa using h1) h2).1) with ⟨h9, h10⟩ | ⟨j, e0, h9, h10, h11, h12⟩
    · have hg : mapGet l0 s = none := by
        unfold mapGet
        rw [List.find?_eq_none.2 fun e1 he1 => by have := List.findIdx?_eq_none_iff.1 h9 e1 he1; simpa using this]
        rfl
      rw [hg]
      refine ⟨_, ?_, mk2 zv z false (hzv F ρ)⟩
      simp [execOp, hv, h2', Instr.lookup, run_underlying hu, Go.MapKept.run_getObj_map h6, hkey, Go.MapKept.run_findKey hku h10, hz]
    · have hj : es[j]? = some e0 := by simpa using h10
      have hjl : j < l0.length := by rw [← h78.len]; exact (Array.getElem?_eq_some_iff.1 hj).1
      have hx0 := List.getElem?_eq_getElem (l := l0) (i := j) hjl
      have hkx := h78.ents j e0 _ hj hx0
      have hk0 : l0[j].1 = s := by
        have h1 := hkx.1
        rw [h11, str_inj] at h1
        exact h1.symm
      have hg : mapGet l0 s = some l0[j].2 := (mapGet_mem h78.nodup).2 (by rw [← hk0]; exact List.getElem_mem _)
      rw [hg]
      rw [Nat.zero_add] at h12
      refine ⟨_, ?_, mk2 e0.val l0[j].2 true hkx.2⟩
      simp [execOp, hv, h2', Instr.lookup, run_underlying hu, Go.MapKept.run_getObj_map h6, hkey, Go.MapKept.run_findKey hku h12]
theorem ex_get (T kT e : Nat) (xm xk : Operand) (n : Nat) (l : List (List UInt8 × AV)) (s : List UInt8) (zv : Value) (z x : AV) (r rk : TRec) (hm : evA t xm = .mp n) (hn : h n = .mp l) (hk : evA t xk = .v (str s)) (hT : look C.tab T = some r) (he : r.kind = .map kT e) (hK : look C.tab kT = some rk) (hks : rk.kind = .string)
    (hz : ∀ w, (zeroValue e).run C.P w = .ok zv w) (hzv : ∀ F ρ, M F ρ zv z) (hx : (mapGet l s).getD z = x) (hN : d < N) :
    ExOk C.P N ⟨some d, .lookup T xm xk false, ty, pos, af, gd⟩ t h ⟨opT xm ++ opT xk, [n], some d, x, [], []⟩ := by
  have := ex_lookup (C := C) (N := N) (d := d) (ty := ty) (pos := pos) (af := af) (gd := gd) (t := t) (h := h) T kT e xm xk false n l s zv z r rk hm hn hk hT he hK hks hz hzv hN
  rw [hx] at this
  exact this
end ops

theorem ren_mp {L : List (Nat × Nat)} {nh n n' : Nat} (hn : Maps L nh n n') : RenV L nh (.mp n) (.mp n') := fun F ρ ρ' v h hm => by
  cases hm with | mp _ n b hρ => exact .mp _ n' b (h n n' hn _ hρ)
theorem tsok_mp {L : List (Nat × Nat)} {nh : Nat} {σ : St} {i n n' : Nat} {l : List (Nat × AV)} (hx : getT σ.ts i = .mp n) (hm : Maps L nh n n') (hl : TsOk L nh σ l) : TsOk L nh σ ((i, .mp n') :: l) := tsok_cons hx (ren_mp hm) hl
theorem hsok_pm {L : List (Nat × Nat)} {nh : Nat} {σ : St} {n n' : Nat} {m m' : List (List UInt8 × AV)} {l : List (Nat × HB)} (hx : getH σ.hs n = .mp m) (hm : Maps L nh n n') (hr : m.Perm m') (hp : ∀ e, e ∈ m' → e.2.pure = true) (hl : HsOk L nh σ l) : HsOk L nh σ ((n', .mp m') :: l) := by
  refine ⟨⟨n, hm, ?_⟩, hl⟩
  rw [hx]
  refine ⟨m', hr, rfl, fun i x y h1 h2 => ?_⟩
  rw [h1] at h2
  obtain rfl := Option.some.inj h2
  exact ⟨rfl, ren_pure (hp x (List.mem_of_getElem? h1))⟩
theorem hsok_mp {L : List (Nat × Nat)} {nh : Nat} {σ : St} {n n' : Nat} {m m' : List (List UInt8 × AV)} {l : List (Nat × HB)} (hx : getH σ.hs n = .mp m) (hm : Maps L nh n n') (hr : m = m') (hp : ∀ e, e ∈ m' → e.2.pure = true) (hl : HsOk L nh σ l) : HsOk L nh σ ((n', .mp m') :: l) := hsok_pm hx hm (hr ▸ .refl _) hp hl
/-- A map told in another order. -/
theorem MapAt.perm {F : Still} {ρ : Places} {es : Array MapEntry} {clock : Nat} {l l' : List (List UInt8 × AV)} (h : MapAt F ρ es clock l) (hp : l.Perm l') : MapAt F ρ es clock l' :=
  let ⟨l0, h1, h2⟩ := h
  ⟨l0, h1.trans hp, h2⟩
theorem red_perm {C : Cx} {ts : List (Nat × AV)} {hs : List (Nat × HB)} {nx : Nat} (n : Nat) (l' : List (List UInt8 × AV)) {l : List (List UInt8 × AV)} (hn : getH hs n = .mp l) (hp : l.Perm l') : Red C ⟨ts, hs, nx⟩ ⟨ts, (n, .mp l') :: hs, nx⟩ := by
  intro B a w _ g
  obtain ⟨g1, g2, F, ρ, hp', g4⟩ := g
  have hget : ∀ m, getH ((n, HB.mp l') :: hs) m = if m = n then HB.mp l' else getH hs m := fun m => by
    simp only [getH, findH]
    by_cases hm : m = n
    · subst hm; simp
    · rw [if_neg hm, if_neg (fun e => hm e.symm)]
  have hown : ∀ m, (getH ((n, HB.mp l') :: hs) m).isOwn = (getH hs m).isOwn := fun m => by
    rw [hget]
    by_cases hm : m = n
    · rw [if_pos hm, hm, hn]; rfl
    · rw [if_neg hm]
  refine ⟨g1, g2, F, ρ, ⟨hp'.kept, hp'.agree, hp'.grow, hp'.fresh, hp'.names, hp'.dom, fun m => ?_, fun m b c hm => hp'.new m b c (by rw [← hown m]; exact hm), fun m k b c c' hmk hm hk => hp'.sep m k b c c' hmk (by rw [← hown m]; exact hm) (by rw [← hown k]; exact hk)⟩, g4⟩
  show OwnAt F ρ w m (getH ((n, HB.mp l') :: hs) m)
  rw [hget]
  by_cases hm : m = n
  · rw [if_pos hm, hm]
    have := hp'.own n
    rw [show getH hs n = .mp l from hn] at this
    obtain ⟨b, o, u, h1, h2, es, clock, h3, h4⟩ := this
    exact ⟨b, o, u, h1, h2, es, clock, h3, h4.perm hp⟩
  · rw [if_neg hm]
    exact hp'.own m
end Go.Ab
