/- The abstract layer, 6: loads, stores, new variables, fields, elements. -/
import Derived.Test.YtieflafgcajhbaaDoorAbMem
set_option linter.unusedSimpArgs false
namespace Go.Ab
open Go.RowKit

def look : List (Nat × TRec) → Nat → Option TRec
  | [], _ => none
  | (T, r) :: l, n => if T = n then some r else look l n

/-- A program with a table of its types. -/
structure Cx where
  P : Program
  tab : List (Nat × TRec)
  ok : ∀ T r, look tab T = some r → trec P T = some r
  mixed : P.follows .mixedOrders = true
  nh : Nat := 0

section
variable {F : Still} {ρ : Places} {v : Value}
theorem M.op_inv {n i j : Nat} (h : M F ρ v (.op n i j)) : ∃ b k cap, ρ n = some (some (b, k, cap)) ∧ v = .pointer (some ⟨b, i * k + j, none⟩) := by
  cases h with | op _ n b k cap i j hn => exact ⟨b, k, cap, hn, rfl⟩
theorem M.os_inv {n off len : Nat} (h : M F ρ v (.os n off len)) : (ρ n = some none ∧ off = 0 ∧ len = 0 ∧ ∃ a, v = .slice a 0 0) ∨
    ∃ b k cap a, ρ n = some (some (b, k, cap)) ∧ v = .slice (some a) len (cap - off) ∧ off + len ≤ cap ∧ (off < cap → a = ⟨b, off * k, none⟩) := by
  cases h with
  | os _ n b k cap off len a hn hl ha => exact .inr ⟨b, k, cap, a, hn, rfl, hl, ha⟩
  | osn _ n a hn => exact .inl ⟨hn, rfl, rfl, a, rfl⟩
theorem M.fp_inv {rows : List (List AV)} {i j : Nat} (h : M F ρ v (.fp rows i j)) : ∃ b off c e fr k, F b = some (.cells c e fr) ∧ i < rows.length ∧ off + rows.length * k ≤ c.size ∧ (∀ row, row ∈ rows → row.length = k) ∧
    (∀ (i j : Nat) row x v, rows[i]? = some row → row[j]? = some x → c[off + i * k + j]? = some v → M F noPlaces v x) ∧ v = .pointer (some ⟨b, off + i * k + j, none⟩) := by
  cases h with | fp _ b off c e fr k rows i j hb hi hs hk h => exact ⟨b, off, c, e, fr, k, hb, hi, hs, hk, h, rfl⟩
theorem M.sl_inv {ex : Bool} {rows : List (List AV)} (h : M F ρ v (.sl ex rows)) : (rows = [] ∧ ∃ a cap, v = .slice a 0 cap ∧ (ex = true → cap = 0) ∧ (a = none → cap = 0)) ∨
    ∃ b off cap c e fr k, F b = some (.cells c e fr) ∧ rows.length ≤ cap ∧ (ex = true → cap = rows.length) ∧ off + rows.length * k ≤ c.size ∧ (∀ row, row ∈ rows → row.length = k) ∧
    (∀ (i j : Nat) row x v, rows[i]? = some row → row[j]? = some x → c[off + i * k + j]? = some v → M F noPlaces v x) ∧ v = .slice (some ⟨b, off, none⟩) rows.length cap := by
  cases h with
  | sl0 _ a cap ex he hn => exact .inl ⟨rfl, a, cap, rfl, he, hn⟩
  | sl _ b off cap c e fr ex k rows hb hc he hs hk h => exact .inr ⟨b, off, cap, c, e, fr, k, hb, hc, he, hs, hk, h, rfl⟩

theorem own_block {w : World} {n b k' cap' : Nat} {ex : Bool} {k : Nat} {rows : List (List AV)} (h : OwnAt F ρ w n (.own ex k rows)) (hn : ρ n = some (some (b, k', cap'))) :
    k' = k ∧ ∃ c e, w.heap[b]? = some (.cells c e (0, 0)) ∧ c.size = cap' * k ∧ rows.length ≤ cap' ∧ (ex = true → cap' = rows.length) ∧ RowsAt F ρ c k rows := by
  rcases h with ⟨h1, _⟩ | ⟨b', cap, c, e, h1, h2, h3, h4, h5, h6⟩
  · rw [hn] at h1; cases h1
  · rw [hn] at h1
    simp only [Option.some.injEq, Prod.mk.injEq] at h1
    obtain ⟨rfl, rfl, rfl⟩ := h1
    exact ⟨rfl, c, e, h2, h3, h4, h5, h6⟩

theorem mul_row {i k cap len : Nat} (hi : i < len) (hl : len ≤ cap) : i * k + k ≤ cap * k := by
  have : (i + 1) * k ≤ cap * k := Nat.mul_le_mul_right k (by omega)
  rw [Nat.add_mul, Nat.one_mul] at this
  exact this
end

section ops
variable {C : Cx} {N d : Nat} {ty : TypeId} {pos : String} {af : Array Edge} {gd : Option (Nat × Bool)} {t : Nat → AV} {h : Nat → HB}

/-- A load out of our own memory. -/
theorem ex_load_own (T : TypeId) (x : Operand) (n i j : Nat) (ex : Bool) (k : Nat) (rows : List (List AV)) (r : TRec) (row : List AV) (y : AV) (hx : evA t x = .op n i j) (hn : h n = .own ex k rows) (hT : look C.tab T = some r)
    (hr : rows[i]? = some row) (hy : cut r row j = some y) (hN : d < N) : ExOk C.P N ⟨some d, .load T x, ty, pos, af, gd⟩ t h ⟨opT x, [n], some d, y, [], []⟩ :=
  ex_pure _ _ rfl hN fun F ρ a w hag hs hh => by
    have h1 := evA_sound (x := x) hs (fun j hj => hj)
    rw [hx] at h1
    obtain ⟨b, k', cap, hρ, hv⟩ := h1.op_inv
    have h2 := hh n (by simp)
    rw [hn] at h2
    obtain ⟨rfl, c, e, hb, hsz, hle, _, hR⟩ := own_block h2 hρ
    have hi : i < rows.length := (List.getElem?_eq_some_iff.1 hr).1
    have hk : row.length = k' := hR.1 row (List.mem_of_getElem? hr)
    obtain ⟨v, hrun, hm⟩ := run_load (F := F) (ρ := ρ) hb (C.ok T r hT) (base := i * k') (j := j) (row := row) (x := y) (by rw [hk, hsz]; exact mul_row hi hle) (fun j x v hj hc => hR.2 i j row x v hr hj hc) hy
    refine ⟨v, ?_, hm⟩
    simp only [execOp, hv, Instr.loadAt, Instr.sureAddr, Sem.run_bind, Sem.run_pure, Result.andThen_ok, hrun]

/-- A load through an address within rows that nobody writes to. -/
theorem ex_load_fp (T : TypeId) (x : Operand) (rows : List (List AV)) (i j : Nat) (r : TRec) (row : List AV) (y : AV) (hx : evA t x = .fp rows i j) (hT : look C.tab T = some r)
    (hr : rows[i]? = some row) (hy : cut r row j = some y) (hN : d < N) : ExOk C.P N ⟨some d, .load T x, ty, pos, af, gd⟩ t h ⟨opT x, [], some d, y, [], []⟩ :=
  ex_pure _ _ rfl hN fun F ρ a w hag hs hh => by
    have h1 := evA_sound (x := x) hs (fun j hj => hj)
    rw [hx] at h1
    obtain ⟨b, off, c, e, fr, k, hb, hi, hsz, hk, hR, hv⟩ := h1.fp_inv
    have hkr : row.length = k := hk row (List.mem_of_getElem? hr)
    obtain ⟨v, hrun, hm⟩ := run_load (F := F) (ρ := ρ) (hag _ _ hb) (C.ok T r hT) (base := off + i * k) (j := j) (row := row) (x := y)
      (by rw [hkr]; have := mul_row (k := k) hi (Nat.le_refl _); omega) (fun j x v hj hc => (hR i j row x v hr hj hc).mono (Still.le_refl F) (noPlaces_le ρ)) hy
    refine ⟨v, ?_, hm⟩
    simp only [execOp, hv, Instr.loadAt, Instr.sureAddr, Sem.run_bind, Sem.run_pure, Result.andThen_ok, hrun]

/-- A load out of our own memory that is written no more. -/
theorem ex_load_fz (T : TypeId) (x : Operand) (n i j : Nat) (rows : List (List AV)) (r : TRec) (row : List AV) (y : AV) (hx : evA t x = .op n i j) (hn : h n = .fz rows) (hT : look C.tab T = some r)
    (hr : rows[i]? = some row) (hy : cut r row j = some y) (hN : d < N) : ExOk C.P N ⟨some d, .load T x, ty, pos, af, gd⟩ t h ⟨opT x, [n], some d, y, [], []⟩ :=
  ex_pure _ _ rfl hN fun F ρ a w hag hs hh => by
    have h1 := evA_sound (x := x) hs (fun j hj => hj)
    rw [hx] at h1
    obtain ⟨b, k', cap, hρ, hv⟩ := h1.op_inv
    have h2 := hh n (by simp)
    rw [hn] at h2
    have hi : i < rows.length := (List.getElem?_eq_some_iff.1 hr).1
    rcases h2 with ⟨_, h3⟩ | ⟨b', k, cap', c, e, fr, h3, hb, hsz, hle, hR⟩
    · rw [h3] at hi; simp at hi
    · rw [hρ] at h3
      simp only [Option.some.injEq, Prod.mk.injEq] at h3
      obtain ⟨rfl, rfl, rfl⟩ := h3
      have hk : row.length = k' := hR.1 row (List.mem_of_getElem? hr)
      obtain ⟨v, hrun, hm⟩ := run_load (F := F) (ρ := ρ) (hag _ _ hb) (C.ok T r hT) (base := i * k') (j := j) (row := row) (x := y) (by rw [hk]; exact Nat.le_trans (mul_row hi (Nat.le_refl _)) hsz)
        (fun j x v hj hc => (hR.2 i j row x v hr hj hc).mono (Still.le_refl F) (fun n c h => by cases h)) hy
      refine ⟨v, ?_, hm⟩
      simp only [execOp, hv, Instr.loadAt, Instr.sureAddr, Sem.run_bind, Sem.run_pure, Result.andThen_ok, hrun]

/-- Cells written over a row. -/
def putRow (row : List AV) (j : Nat) (xs : List AV) : List AV := row.take j ++ xs ++ row.drop (j + xs.length)

theorem putRow_length {row xs : List AV} {j : Nat} (h : j + xs.length ≤ row.length) : (putRow row j xs).length = row.length := by
  simp [putRow]; omega

theorem cut_row {r : TRec} {row : List AV} (ha : r.agg = true) (hl : row.length = r.size) : cut r row 0 = some (.agg row) := by
  unfold cut
  rw [if_pos ha, if_pos (by omega), List.drop_zero, ← hl, List.take_length]
/-- A whole row loaded. -/
theorem ex_load_own_row (T : TypeId) (x : Operand) (n i : Nat) (ex : Bool) (k : Nat) (rows : List (List AV)) (r : TRec) (row : List AV) (hx : evA t x = .op n i 0) (hn : h n = .own ex k rows) (hT : look C.tab T = some r)
    (hr : rows[i]? = some row) (ha : r.agg = true) (hl : row.length = r.size) (hN : d < N) : ExOk C.P N ⟨some d, .load T x, ty, pos, af, gd⟩ t h ⟨opT x, [n], some d, .agg row, [], []⟩ := ex_load_own T x n i 0 ex k rows r row _ hx hn hT hr (cut_row ha hl) hN
theorem ex_load_fp_row (T : TypeId) (x : Operand) (rows : List (List AV)) (i : Nat) (r : TRec) (row : List AV) (hx : evA t x = .fp rows i 0) (hT : look C.tab T = some r)
    (hr : rows[i]? = some row) (ha : r.agg = true) (hl : row.length = r.size) (hN : d < N) : ExOk C.P N ⟨some d, .load T x, ty, pos, af, gd⟩ t h ⟨opT x, [], some d, .agg row, [], []⟩ := ex_load_fp T x rows i 0 r row _ hx hT hr (cut_row ha hl) hN
theorem ex_load_fz_row (T : TypeId) (x : Operand) (n i : Nat) (rows : List (List AV)) (r : TRec) (row : List AV) (hx : evA t x = .op n i 0) (hn : h n = .fz rows) (hT : look C.tab T = some r)
    (hr : rows[i]? = some row) (ha : r.agg = true) (hl : row.length = r.size) (hN : d < N) : ExOk C.P N ⟨some d, .load T x, ty, pos, af, gd⟩ t h ⟨opT x, [n], some d, .agg row, [], []⟩ := ex_load_fz T x n i 0 rows r row _ hx hn hT hr (cut_row ha hl) hN

theorem ex_store (T : TypeId) (p x : Operand) (n i j : Nat) (ex : Bool) (k : Nat) (rows : List (List AV)) (r : TRec) (row : List AV) (hp : evA t p = .op n i j) (hn : h n = .own ex k rows) (hT : look C.tab T = some r)
    (hr : rows[i]? = some row) (hc : (cellsOf (evA t x)).all cellLike = true) (hs : (cellsOf (evA t x)).length = r.size) (hj : j + (cellsOf (evA t x)).length ≤ row.length) :
    ExOk C.P N ⟨none, .store T p x, ty, pos, af, gd⟩ t h ⟨opT p ++ opT x, [n], none, .junk, [(n, .own ex k (rows.set i (putRow row j (cellsOf (evA t x)))))], []⟩ :=
  ex_write _ _ n ex k _ [] [] (fun d hd => by cases hd) (.inr rfl) (by simp) fun B A h' F ρ a w hpp hm hh _ => by
    have h1 := evA_sound (x := p) hm (fun j hj => List.mem_append_left _ hj)
    have h2 := evA_sound (x := x) hm (fun j hj => List.mem_append_right _ hj)
    rw [hp] at h1
    obtain ⟨b, k', cap, hρ, hv⟩ := h1.op_inv
    have hn' : h' n = .own ex k rows := (hh n (by simp)).trans hn
    have h3 := hpp.own n
    rw [hn'] at h3
    obtain ⟨rfl, c, e, hb, hsz, hle, hex, hR⟩ := own_block h3 hρ
    have hi : i < rows.length := (List.getElem?_eq_some_iff.1 hr).1
    have hk : row.length = k' := hR.1 row (List.mem_of_getElem? hr)
    obtain ⟨c1, c2, c3⟩ := h2.cells hc
    have hrow := mul_row (k := k') hi hle
    obtain ⟨dd, inf, z, _, hinf, _, _, _, hsize, _⟩ := trec_spec (C.ok T r hT)
    have hst := run_storeCells_at C.P b (i * k' + j) e (a.eval x).cells.toList 0 c w hb (by rw [hsz, c1]; omega) c2
    simp only [Nat.add_zero] at hst
    let c' : Array Value := (c.toList.take (i * k' + j) ++ (a.eval x).cells.toList ++ c.toList.drop (i * k' + j + (a.eval x).cells.toList.length)).toArray
    have hc'size : c'.size = c.size := by simp only [c', List.size_toArray, List.length_append, List.length_take, List.length_drop, Array.length_toList]; simp only [Array.length_toList] at c1; omega
    have hpl : (fun m => if m = n then some (some (b, k', cap)) else ρ m) = ρ := by
      funext m; by_cases hmn : m = n
      · subst hmn; simp [hρ]
      · simp [hmn]
    refine ⟨.skip, w.setRow b c', some (b, k', cap), some b, ?_, .inl ⟨rfl, rfl⟩, .inr hρ, ?_, ?_, ?_, ?_, ?_, fun _ => by rw [hρ]; simp⟩
    · have hsv : (storeVar T ⟨b, i * k' + j, none⟩ (a.eval x)).run C.P w = .ok () (w.setRow b c') := by
        unfold storeVar
        have hcs : (a.eval x).cells.size = r.size := by rw [← Array.length_toList, c1, hs]
        simp only [Sem.run_bind, run_sizeOf (C.ok T r hT), Result.andThen_ok, hcs, ne_eq, not_true_eq_false, if_false, Sem.run_pure]
        exact hst
      simp only [execOp, hv, Instr.storeAt, Instr.sureAddr, Sem.run_bind, Sem.run_pure, Result.andThen_ok, hsv]
    · have hnew := (hpp.new n b _ (by rw [hn']; rfl) hρ).2
      refine ⟨hpp.kept.os, hpp.kept.tape, hpp.kept.output, by simpa [World.setRow] using hpp.kept.size, fun b' hb' ho => ?_⟩
      rw [setRow_other _ _ _ _ (by rintro rfl; rcases hnew with hnew | hnew; · omega
                                   · exact ho hnew)]
      exact hpp.kept.block b' hb' ho
    · intro b' hb'
      simp only [Option.some.injEq] at hb'
      subst hb'
      exact ⟨n, _, .inl rfl, by rw [hn']; rfl, hρ⟩
    · intro b' _ hb'
      exact setRow_other _ _ _ _ (fun e => hb' (by rw [e]))
    · intro b' c'' he
      simp only [Option.some.injEq, Prod.mk.injEq] at he
      exact .inl (by rw [he.1])
    · rw [hpl]
      refine .inr ⟨b, cap, c', e, hρ, setRow_heap _ _ _ _ _ _ hb, by rw [hc'size]; exact hsz, by simpa using hle, by simpa using hex, ?_, ?_⟩
      · intro row' hrow'
        rcases List.mem_or_eq_of_mem_set hrow' with h4 | h4
        · exact hR.1 row' h4
        · rw [h4, putRow_length hj, hk]
      · intro i' j' row' y v' hi' hj' hv'
        have hj'k : j' < k' := by
          have := (List.getElem?_eq_some_iff.1 hj').1
          have hl : row'.length = k' := by
            rcases List.mem_or_eq_of_mem_set (List.mem_of_getElem? hi') with h4 | h4
            · exact hR.1 row' h4
            · rw [h4, putRow_length hj, hk]
          omega
        have hget : c'[i' * k' + j']? = if i' * k' + j' < i * k' + j then c[i' * k' + j']? else if i' * k' + j' < i * k' + j + (cellsOf (evA t x)).length then (a.eval x).cells.toList[i' * k' + j' - (i * k' + j)]? else c[i' * k' + j']? := by
          simp only [c', List.getElem?_toArray, List.getElem?_append, List.length_append, List.length_take, Array.length_toList]
          simp only [Array.length_toList] at c1
          rw [c1, Nat.min_eq_left (by omega)]
          by_cases h5 : i' * k' + j' < i * k' + j
          · rw [if_pos (by omega), if_pos h5, if_pos h5, List.getElem?_take, if_pos h5]; simp
          · by_cases h6 : i' * k' + j' < i * k' + j + (cellsOf (evA t x)).length
            · rw [if_pos h6, if_neg h5, if_neg h5, if_pos h6]
            · rw [if_neg h6, if_neg h5, if_neg h6, List.getElem?_drop, show i * k' + j + (cellsOf (evA t x)).length + (i' * k' + j' - (i * k' + j + (cellsOf (evA t x)).length)) = i' * k' + j' from by omega]
              simp
        rw [hget] at hv'
        by_cases hii : i' = i
        · subst hii
          rw [List.getElem?_set_self hi] at hi'
          simp only [Option.some.injEq] at hi'
          subst hi'
          unfold putRow at hj'
          rw [List.getElem?_append, List.getElem?_append] at hj'
          simp only [List.length_append, List.length_take] at hj'
          rw [Nat.min_eq_left (by omega)] at hj'
          by_cases h5 : j' < j
          · rw [if_pos (by omega)] at hv'
            rw [if_pos (by omega), if_pos h5, List.getElem?_take, if_pos h5] at hj'
            exact hR.2 i' j' row y v' hr hj' hv'
          · rw [if_neg (by omega)] at hv'
            by_cases h6 : j' < j + (cellsOf (evA t x)).length
            · rw [if_pos (by omega), show i' * k' + j' - (i' * k' + j) = j' - j from by omega] at hv'
              rw [if_pos h6, if_neg h5] at hj'
              exact c3 _ _ _ hv' hj'
            · rw [if_neg (by omega)] at hv'
              rw [if_neg h6, List.getElem?_drop, show j + (cellsOf (evA t x)).length + (j' - (j + (cellsOf (evA t x)).length)) = j' from by omega] at hj'
              exact hR.2 i' j' row y v' hr hj' hv'
        · rw [List.getElem?_set_ne (Ne.symm hii)] at hi'
          have hlt : i' * k' + j' < i * k' + j ∨ i * k' + j + (cellsOf (evA t x)).length ≤ i' * k' + j' := by
            rcases Nat.lt_or_ge i' i with h5 | h5
            · left; have := mul_row (k := k') h5 (Nat.le_refl _); omega
            · right; have := mul_row (k := k') (show i < i' by omega) (Nat.le_refl _); omega
          have hv'' : c[i' * k' + j']? = some v' := by
            rcases hlt with h5 | h5
            · rw [if_pos h5] at hv'; exact hv'
            · rw [if_neg (by omega), if_neg (by omega)] at hv'; exact hv'
          exact hR.2 i' j' row' y v' hi' hj' hv''
end ops
end Go.Ab
