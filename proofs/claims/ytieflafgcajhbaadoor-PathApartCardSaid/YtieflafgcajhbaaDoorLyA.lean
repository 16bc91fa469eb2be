import Derived.ProofKit
import Derived.Orders
import Derived.Below
import Derived.MapKept
import Derived.IntWalk
import Derived.Laws.Cells
import Derived.Laws.CopyRow
import Derived.Laws.Tables
import Derived.Laws.Entries
import Derived.Laws.StructEq
import Derived.Laws.Append
/- Blocks that the program's text lays, and nobody writes to. -/
import Derived.Lib.ItoaNum
namespace Go.Ab
def tables : Nat → Option (Array Value) := fun b => if b = 1 then some (Lib.pow10Tab.map fun z => Value.int .u64 z).toArray else none
end Go.Ab

/- The abstract layer, 1: abstract values, what they stand for, the state. No program in sight. -/
namespace Go.Ab
open Go.RowKit



/-- Abstract values. v: a plain value · agg, tup: of parts · sl: a slice that nobody will write to (ex: its capacity is its length) · fp: an address within such rows · os, op: a slice, an address in memory of our own · clo: a function value · mp: a map of our own · anyb: a truth value that is not known · junk: anything. -/
inductive AV where
  | v (x : Value)
  | agg (cs : List AV)
  | tup (cs : List AV)
  | sl (ex : Bool) (rows : List (List AV))
  | fp (rows : List (List AV)) (i j : Nat)
  | os (n off len : Nat)
  | op (n i j : Nat)
  | clo (fn : Fn) (first cap : List AV)
  | mp (n : Nat)
  | anyb
  | junk

/-- A value that is one cell. -/
def single : Value → Bool
  | .agg _ | .tuple _ => false
  | _ => true

/-- Where a name's memory lies: nowhere (a nil slice), or a block: its number, the cells of a row, the rows. -/
abbrev Places := Nat → Option (Option (Nat × Nat × Nat))
/-- Blocks that nobody will write to. -/
abbrev Still := Nat → Option Obj

def noPlaces : Places := fun _ => none

/-- A value is as told, F the blocks that nobody will write to, ρ where our own memory lies. What stands within rows of the first kind knows nothing of the second. -/
inductive M (F : Still) : Places → Value → AV → Prop
  | v (ρ : Places) (x : Value) (h : single x = true) : M F ρ x (.v x)
  | agg (ρ : Places) (vs : List Value) (xs : List AV) (hl : vs.length = xs.length) (h : ∀ (i : Nat) v x, vs[i]? = some v → xs[i]? = some x → M F ρ v x) : M F ρ (.agg vs.toArray) (.agg xs)
  | tup (ρ : Places) (vs : List Value) (xs : List AV) (hl : vs.length = xs.length) (h : ∀ (i : Nat) v x, vs[i]? = some v → xs[i]? = some x → M F ρ v x) : M F ρ (.tuple vs.toArray) (.tup xs)
  | sl0 (ρ : Places) (a : Option Addr) (cap : Nat) (ex : Bool) (he : ex = true → cap = 0) (hn : a = none → cap = 0) : M F ρ (.slice a 0 cap) (.sl ex [])
  | sl (ρ : Places) (b off cap : Nat) (c : Array Value) (e : TypeId) (fr : Nat × Nat) (ex : Bool) (k : Nat) (rows : List (List AV)) (hb : F b = some (.cells c e fr)) (hc : rows.length ≤ cap) (he : ex = true → cap = rows.length)
      (hs : off + rows.length * k ≤ c.size) (hk : ∀ row, row ∈ rows → row.length = k)
      (h : ∀ (i j : Nat) row x v, rows[i]? = some row → row[j]? = some x → c[off + i * k + j]? = some v → M F noPlaces v x) : M F ρ (.slice (some ⟨b, off, none⟩) rows.length cap) (.sl ex rows)
  | fp (ρ : Places) (b off : Nat) (c : Array Value) (e : TypeId) (fr : Nat × Nat) (k : Nat) (rows : List (List AV)) (i j : Nat) (hb : F b = some (.cells c e fr)) (hi : i < rows.length)
      (hs : off + rows.length * k ≤ c.size) (hk : ∀ row, row ∈ rows → row.length = k)
      (h : ∀ (i j : Nat) row x v, rows[i]? = some row → row[j]? = some x → c[off + i * k + j]? = some v → M F noPlaces v x) : M F ρ (.pointer (some ⟨b, off + i * k + j, none⟩)) (.fp rows i j)
  | os (ρ : Places) (n b k cap off len : Nat) (a : Addr) (hn : ρ n = some (some (b, k, cap))) (hl : off + len ≤ cap) (ha : off < cap → a = ⟨b, off * k, none⟩) : M F ρ (.slice (some a) len (cap - off)) (.os n off len)
  | osn (ρ : Places) (n : Nat) (a : Option Addr) (hn : ρ n = some none) : M F ρ (.slice a 0 0) (.os n 0 0)
  | op (ρ : Places) (n b k cap i j : Nat) (hn : ρ n = some (some (b, k, cap))) : M F ρ (.pointer (some ⟨b, i * k + j, none⟩)) (.op n i j)
  | clo (ρ : Places) (fn : Fn) (vs us : List Value) (xs ys : List AV) (hl : vs.length = xs.length) (hm : us.length = ys.length) (h : ∀ (i : Nat) v x, vs[i]? = some v → xs[i]? = some x → M F ρ v x)
      (h' : ∀ (i : Nat) v x, us[i]? = some v → ys[i]? = some x → M F ρ v x) : M F ρ (.func fn vs.toArray us.toArray) (.clo fn xs ys)
  | mp (ρ : Places) (n b : Nat) (hn : ρ n = some (some (b, 0, 0))) : M F ρ (.map (some b)) (.mp n)
  | anyb (ρ : Places) (b : Bool) : M F ρ (.bool b) .anyb
  | junk (ρ : Places) (v : Value) : M F ρ v .junk

def Still.le (F G : Still) : Prop := ∀ b o, F b = some o → G b = some o
def Places.le (ρ σ : Places) : Prop := ∀ n c, ρ n = some c → σ n = some c
theorem Places.le_refl (ρ : Places) : ρ.le ρ := fun _ _ h => h
theorem Still.le_refl (F : Still) : F.le F := fun _ _ h => h
theorem noPlaces_le (ρ : Places) : noPlaces.le ρ := fun _ _ h => by cases h

theorem M.mono {F G : Still} {ρ σ : Places} (hF : F.le G) (hρ : ρ.le σ) {v : Value} {x : AV} (h : M F ρ v x) : M G σ v x := by
  induction h generalizing σ with
  | v ρ x h => exact .v _ x h
  | agg ρ vs xs hl _ ih => exact .agg _ vs xs hl fun i v x h1 h2 => ih i v x h1 h2 hρ
  | tup ρ vs xs hl _ ih => exact .tup _ vs xs hl fun i v x h1 h2 => ih i v x h1 h2 hρ
  | sl0 ρ a cap ex he hn => exact .sl0 _ a cap ex he hn
  | sl ρ b off cap c e fr ex k rows hb hc he hs hk _ ih => exact .sl _ b off cap c e fr ex k rows (hF _ _ hb) hc he hs hk fun i j row x v h1 h2 h3 => ih i j row x v h1 h2 h3 (Places.le_refl _)
  | fp ρ b off c e fr k rows i j hb hi hs hk _ ih => exact .fp _ b off c e fr k rows i j (hF _ _ hb) hi hs hk fun i j row x v h1 h2 h3 => ih i j row x v h1 h2 h3 (Places.le_refl _)
  | os ρ n b k cap off len a hn hl ha => exact .os _ n b k cap off len a (hρ _ _ hn) hl ha
  | osn ρ n a hn => exact .osn _ n a (hρ _ _ hn)
  | op ρ n b k cap i j hn => exact .op _ n b k cap i j (hρ _ _ hn)
  | clo ρ fn vs us xs ys hl hm _ _ ih ih' => exact .clo _ fn vs us xs ys hl hm (fun i v x h1 h2 => ih i v x h1 h2 hρ) (fun i v x h1 h2 => ih' i v x h1 h2 hρ)
  | mp ρ n b hn => exact .mp _ n b (hρ _ _ hn)
  | anyb ρ b => exact .anyb _ b
  | junk ρ v => exact .junk _ v

/-- Nothing in it is of our own memory. -/
def AV.pure : AV → Bool
  | .v _ | .sl .. | .fp .. | .anyb | .junk => true
  | .os .. | .op .. | .mp _ => false
  | .agg cs => pureL cs
  | .tup cs => pureL cs
  | .clo _ xs ys => pureL xs && pureL ys
where
  pureL : List AV → Bool
    | [] => true
    | x :: l => x.pure && pureL l

theorem pureL_mem {l : List AV} (h : AV.pure.pureL l = true) {i : Nat} {x : AV} (hx : l[i]? = some x) : x.pure = true := by
  induction l generalizing i with
  | nil => simp at hx
  | cons y l ih =>
    simp only [AV.pure.pureL, Bool.and_eq_true] at h
    cases i with
    | zero => simp at hx; exact hx ▸ h.1
    | succ i => exact ih h.2 (by simpa using hx)

theorem M.moved {F : Still} {ρ : Places} (σ : Places) {v : Value} {x : AV} (h : M F ρ v x) (hx : x.pure = true) : M F σ v x := by
  induction h generalizing σ with
  | v ρ x h => exact .v _ x h
  | agg ρ vs xs hl _ ih => exact .agg _ vs xs hl fun i v x h1 h2 => ih i v x h1 h2 _ (pureL_mem (by simpa [AV.pure] using hx) h2)
  | tup ρ vs xs hl _ ih => exact .tup _ vs xs hl fun i v x h1 h2 => ih i v x h1 h2 _ (pureL_mem (by simpa [AV.pure] using hx) h2)
  | sl0 ρ a cap ex he hn => exact .sl0 _ a cap ex he hn
  | sl ρ b off cap c e fr ex k rows hb hc he hs hk h _ => exact .sl _ b off cap c e fr ex k rows hb hc he hs hk h
  | fp ρ b off c e fr k rows i j hb hi hs hk h _ => exact .fp _ b off c e fr k rows i j hb hi hs hk h
  | os ρ n b k cap off len a hn hl ha => cases hx
  | osn ρ n a hn => cases hx
  | op ρ n b k cap i j hn => cases hx
  | clo ρ fn vs us xs ys hl hm _ _ ih ih' =>
    simp only [AV.pure, Bool.and_eq_true] at hx
    exact .clo _ fn vs us xs ys hl hm (fun i v x h1 h2 => ih i v x h1 h2 _ (pureL_mem hx.1 h2)) (fun i v x h1 h2 => ih' i v x h1 h2 _ (pureL_mem hx.2 h2))
  | mp ρ n b hn => cases hx
  | anyb ρ b => exact .anyb _ b
  | junk ρ v => exact .junk _ v

/-- What is no row of cells: a map; what steps through a text. -/
inductive MB where
  | map (l : List (List UInt8 × AV))
  | sit (s : List UInt8) (pos : Nat)
instance : Coe (List (List UInt8 × AV)) MB := ⟨MB.map⟩
/-- Memory of our own, as the state tells of it. dead: of it nothing is told · own: so many rows (ex: and no spare ones) · fz: rows that are written no more. -/
inductive HB where
  | dead
  | own (ex : Bool) (k : Nat) (rows : List (List AV))
  | fz (rows : List (List AV))
  | mp (l : MB)

def HB.isOwn : HB → Bool
  | .own .. => true
  | .mp _ => true
  | _ => false

/-- Rows of k cells from an offset on. -/
def RowsAt (F : Still) (ρ : Places) (c : Array Value) (k : Nat) (rows : List (List AV)) : Prop :=
  (∀ row, row ∈ rows → row.length = k) ∧ ∀ (i j : Nat) row x v, rows[i]? = some row → row[j]? = some x → c[i * k + j]? = some v → M F ρ v x

/-- The entries of a map, in the order in which they came: its keys are strings, each there once. -/
structure MapIn (F : Still) (ρ : Places) (es : Array MapEntry) (clock : Nat) (l : List (List UInt8 × AV)) : Prop where
  len : es.size = l.length
  nodup : (l.map (·.1)).Nodup
  stamp : Go.MapKept.Stamped es clock
  ents : ∀ (i : Nat) e x, es[i]? = some e → l[i]? = some x → e.key = .string ⟨x.1.toArray⟩ ∧ M F ρ e.val x.2
/-- The entries of a map, in whatever order. -/
def MapAt (F : Still) (ρ : Places) (es : Array MapEntry) (clock : Nat) (l : List (List UInt8 × AV)) : Prop := ∃ l', l'.Perm l ∧ MapIn F ρ es clock l'

def MbAt (F : Still) (ρ : Places) (o : Obj) : MB → Prop
  | .map l => ∃ es clock, o = .map es clock ∧ MapAt F ρ es clock l
  | .sit s pos => o = .stringIter ⟨s.toArray⟩ pos

def OwnAt (F : Still) (ρ : Places) (w : World) (n : Nat) : HB → Prop
  | .dead => True
  | .own ex k rows => (ρ n = some none ∧ rows = []) ∨ ∃ b cap c e, ρ n = some (some (b, k, cap)) ∧ w.heap[b]? = some (.cells c e (0, 0)) ∧ c.size = cap * k ∧ rows.length ≤ cap ∧ (ex = true → cap = rows.length) ∧ RowsAt F ρ c k rows
  | .fz rows => (ρ n = some none ∧ rows = []) ∨ ∃ b k cap c e fr, ρ n = some (some (b, k, cap)) ∧ F b = some (.cells c e fr) ∧ rows.length * k ≤ c.size ∧ rows.length ≤ cap ∧ RowsAt F noPlaces c k rows
  | .mp l => ∃ b o, ∃ _ : Unit, ρ n = some (some (b, 0, 0)) ∧ w.heap[b]? = some o ∧ MbAt F ρ o l

theorem MapAt.mono {F G : Still} {ρ σ : Places} (hF : F.le G) (hρ : ρ.le σ) {es : Array MapEntry} {clock : Nat} {l : List (List UInt8 × AV)} (h : MapAt F ρ es clock l) : MapAt G σ es clock l := by
  obtain ⟨l', hp, h⟩ := h
  exact ⟨l', hp, h.len, h.nodup, h.stamp, fun i e x h1 h2 => ⟨(h.ents i e x h1 h2).1, (h.ents i e x h1 h2).2.mono hF hρ⟩⟩

theorem MbAt.mono {F G : Still} {ρ σ : Places} (hF : F.le G) (hρ : ρ.le σ) {o : Obj} {l : MB} (h : MbAt F ρ o l) : MbAt G σ o l := by
  cases l with
  | map l =>
    obtain ⟨es, clock, h1, h2⟩ := h
    exact ⟨es, clock, h1, h2.mono hF hρ⟩
  | sit s pos => exact h

theorem RowsAt.mono {F G : Still} {ρ σ : Places} (hF : F.le G) (hρ : ρ.le σ) {c : Array Value} {k : Nat} {rows : List (List AV)} (h : RowsAt F ρ c k rows) : RowsAt G σ c k rows :=
  ⟨h.1, fun i j row x v h1 h2 h3 => (h.2 i j row x v h1 h2 h3).mono hF hρ⟩

/-- What a call began with: the blocks that it may not write, their contents; the blocks handed over; the names. -/
structure Base where
  w0 : World
  F0 : Still
  ρ0 : Places
  O0 : Nat → Prop
  N : Nat
  tab : ∀ b cs, tables b = some cs → ∃ e fr, F0 b = some (.cells cs e fr)

def Base.new (B : Base) (b : Nat) : Prop := B.w0.heap.size ≤ b ∨ B.O0 b

/-- The frame: all that was there, and was not handed over, is as it was. -/
structure Base.kept (B : Base) (w : World) : Prop where
  os : w.os = B.w0.os
  tape : w.tape = B.w0.tape
  output : w.output = B.w0.output
  size : B.w0.heap.size ≤ w.heap.size
  block : ∀ b, b < B.w0.heap.size → ¬ B.O0 b → w.heap[b]? = B.w0.heap[b]?

/-- The heap's part of a state. -/
structure Hp (B : Base) (A : Nat → Prop) (h : Nat → HB) (F : Still) (ρ : Places) (w : World) : Prop where
  kept : B.kept w
  agree : ∀ b o, F b = some o → w.heap[b]? = some o
  grow : B.F0.le F
  fresh : ∀ b, F b ≠ none → B.F0 b ≠ none ∨ B.new b
  names : B.ρ0.le ρ
  dom : ∀ n, ρ n ≠ none → A n
  own : ∀ n, OwnAt F ρ w n (h n)
  new : ∀ n b c, (h n).isOwn = true → ρ n = some (some (b, c)) → F b = none ∧ B.new b
  sep : ∀ n m b c c', n ≠ m → (h n).isOwn = true → (h m).isOwn = true → ρ n = some (some (b, c)) → ρ m = some (some (b, c')) → False

theorem Hp.blk {B : Base} {A : Nat → Prop} {h : Nat → HB} {F : Still} {ρ : Places} {w : World} (hp : Hp B A h F ρ w) {n b : Nat} {c : Nat × Nat} (ho : (h n).isOwn = true) (hn : ρ n = some (some (b, c))) : b < w.heap.size := by
  have := hp.own n
  cases hh : h n with
  | own ex k rows =>
    rw [hh] at this
    rcases this with ⟨h1, _⟩ | ⟨b', cap, cc, e, h1, h2, _⟩
    · rw [hn] at h1; cases h1
    · rw [hn] at h1; simp only [Option.some.injEq, Prod.mk.injEq] at h1
      rw [h1.1]; exact (Array.getElem?_eq_some_iff.1 h2).1
  | dead => rw [hh] at ho; cases ho
  | fz rows => rw [hh] at ho; cases ho
  | mp l =>
    rw [hh] at this
    obtain ⟨b', es, clock, h1, h2, _⟩ := this
    rw [hn] at h1; simp only [Option.some.injEq, Prod.mk.injEq] at h1
    rw [h1.1]; exact (Array.getElem?_eq_some_iff.1 h2).1

/-- The whole: slots and heap. -/
def Ga (B : Base) (A : Nat → Prop) (t : Nat → AV) (h : Nat → HB) (a : Act) (w : World) : Prop :=
  a.defers = [] ∧ a.tmps.size = B.N ∧ ∃ F ρ, Hp B A h F ρ w ∧ ∀ i, M F ρ (a.tmps.getD i undef) (t i)

theorem Base.kept.setCell {B : Base} {w : World} (h : B.kept w) {p : Addr} (hp : B.new p.block) (u : Value) : B.kept (w.setCell p u) where
  os := h.os
  tape := h.tape
  output := h.output
  size := by simpa using h.size
  block b hb ho := by
    rw [Below.heap_setCell _ _ _ _ (by rintro rfl; rcases hp with hp | hp; · omega
                                       · exact ho hp)]
    exact h.block b hb ho

theorem Base.kept.alloc {B : Base} {w : World} (h : B.kept w) (o : Obj) : B.kept (w.alloc o) where
  os := h.os
  tape := h.tape
  output := h.output
  size := by have := h.size; simp; omega
  block b hb ho := by
    rw [Below.heap_alloc _ _ _ (by have := h.size; omega)]
    exact h.block b hb ho

theorem Base.kept.drew {B : Base} {w : World} (h : B.kept w) : B.kept w.drew := ⟨h.os, h.tape, h.output, h.size, h.block⟩

/-- Behind a law that ends in 'grownBy'. -/
theorem Base.kept.grown {B : Base} {w w' : World} {row : Option Nat} (h : B.kept w) (hg : w.grownBy w' row) (hr : ∀ k, row = some k → B.new k) : B.kept w' where
  os := hg.os.trans h.os
  tape := hg.tape.trans h.tape
  output := hg.output.trans h.output
  size := Nat.le_trans h.size hg.size
  block b hb ho := by
    rw [hg.block b (by have := h.size; omega) (fun e => by rcases hr b e.symm with h' | h'; · omega
                                                           · exact ho h')]
    exact h.block b hb ho

end Go.Ab

/- The abstract layer, 2: what an operation does to a state; a region in whatever order its edges allow. -/
namespace Go.Ab

/-- What an operation reads and writes: slots and names. fr: names that it makes. -/
structure Eff where
  rt : List Nat
  rh : List Nat
  wt : Option Nat
  val : AV
  wh : List (Nat × HB)
  fr : List Nat

def findH : List (Nat × HB) → Nat → Option HB
  | [], _ => none
  | (m, x) :: l, n => if m = n then some x else findH l n

def Eff.wT (E : Eff) (i : Nat) : Option AV := if E.wt = some i then some E.val else none
def Eff.wH (E : Eff) (n : Nat) : Option HB := findH E.wh n
def Eff.t (E : Eff) (t : Nat → AV) : Nat → AV := fun i => (E.wT i).getD (t i)
def Eff.h (E : Eff) (h : Nat → HB) : Nat → HB := fun n => (E.wH n).getD (h n)

/-- The operation i does just that, wherever what it reads is as told. -/
def OpOk (P : Program) (ops : Array Oper) (N i : Nat) (t : Nat → AV) (h : Nat → HB) (E : Eff) : Prop :=
  ∀ (B : Base) (A : Nat → Prop) (t' : Nat → AV) (h' : Nat → HB) (a : Act) (w : World) (Q : Exit → Act → World → Prop) (K : Act → World → Prop),
    B.N = N → Ga B A t' h' a w → (∀ j, j ∈ E.rt → t' j = t j) → (∀ n, n ∈ E.rh → h' n = h n) → (∀ n, n ∈ E.fr → ¬ A n) →
    (∀ a' w', Ga B (fun n => A n ∨ n ∈ E.fr) (E.t t') (E.h h') a' w' → K a' w') → wpOp P ops Q i K a w

section run
variable {R V : Type} (W : Eff → R → Option V)

/-- What stands at r behind those operations of the list that are done. -/
def run (D : Nat → Bool) : Nat → List Eff → (R → V) → R → V
  | _, [], x => x
  | i, E :: Es, x => run D (i + 1) Es (fun r => if D i then (W E r).getD (x r) else x r)

theorem run_congr (D D' : Nat → Bool) (r : R) : ∀ (Es : List Eff) (i : Nat) (x x' : R → V), x r = x' r → (∀ (j : Nat) E, Es[j]? = some E → W E r ≠ none → D (i + j) = D' (i + j)) → run W D i Es x r = run W D' i Es x' r
  | [], _, _, _, h, _ => h
  | E :: Es, i, x, x', h, hw => by
    simp only [run]
    refine run_congr D D' r Es (i + 1) _ _ ?_ (fun j E' hj hn => by have := hw (j + 1) E' (by simpa using hj) hn; rw [show i + 1 + j = i + (j + 1) from by omega]; exact this)
    show (if D i then (W E r).getD (x r) else x r) = if D' i then (W E r).getD (x' r) else x' r
    cases hwr : W E r with
    | none => simp [h]
    | some u => have := hw 0 E rfl (by simp [hwr]); rw [Nat.add_zero] at this; rw [this, h]

theorem run_add (D D' : Nat → Bool) (r : R) (m : Nat) (Em : Eff) : ∀ (Es : List Eff) (i : Nat) (x : R → V), Es[m]? = some Em → D (i + m) = false → D' (i + m) = true → (∀ j, j ≠ i + m → D' j = D j) →
    (∀ (j : Nat) E, Es[j]? = some E → m < j → W Em r ≠ none → W E r ≠ none → D (i + j) = false) → run W D' i Es x r = (W Em r).getD (run W D i Es x r)
  | [], _, _, h, _, _, _, _ => by simp at h
  | E :: Es, i, x, hm, h0, h1, hne, hlast => by
    cases m with
    | zero =>
      simp only [List.getElem?_cons_zero, Option.some.injEq] at hm
      subst hm
      simp only [run]
      rw [Nat.add_zero] at h0 h1 hne
      simp only [h0, h1, if_true, Bool.false_eq_true, if_false]
      cases hw : W E r with
      | none => simp only [Option.getD_none]; exact run_congr W D' D r Es (i + 1) _ _ (by simp [hw]) (fun j E' hj hn => hne _ (by omega))
      | some u =>
        simp only [Option.getD_some]
        have hz : ∀ (Es' : List Eff) (i' : Nat) (y : R → V), y r = u → (∀ (j : Nat) E', Es'[j]? = some E' → W E' r ≠ none → D' (i' + j) = false) → run W D' i' Es' y r = u := by
          intro Es'
          induction Es' with
          | nil => intro i' y hy _; exact hy
          | cons E' Es' ih =>
            intro i' y hy hall
            simp only [run]
            refine ih (i' + 1) _ ?_ (fun j E'' hj hn => by have := hall (j + 1) E'' (by simpa using hj) hn; rw [show i' + 1 + j = i' + (j + 1) from by omega]; exact this)
            show (if D' i' then (W E' r).getD (y r) else y r) = u
            cases hw' : W E' r with
            | none => simp [hy]
            | some u' => have := hall 0 E' rfl (by simp [hw']); rw [Nat.add_zero] at this; simp [this, hy]
        exact hz Es (i + 1) _ (by simp [hw]) (fun j E' hj hn => by
          have := hlast (j + 1) E' (by simpa using hj) (by omega) (by simp [hw]) hn
          rw [show i + 1 + j = i + (j + 1) from by omega, hne _ (by omega)]; exact this)
    | succ m =>
      simp only [run]
      rw [run_congr W D' D' r Es (i + 1) _ (fun r => if D i then (W E r).getD (x r) else x r) (by rw [hne i (by omega)]) (fun _ _ _ _ => rfl)]
      exact run_add D D' r m Em Es (i + 1) _ (by simpa using hm) (by rw [show i + 1 + m = i + (m + 1) from by omega]; exact h0) (by rw [show i + 1 + m = i + (m + 1) from by omega]; exact h1)
        (fun j hj => hne j (by omega)) (fun j E' hj hlt h2 h3 => by rw [show i + 1 + j = i + (j + 1) from by omega]; exact hlast (j + 1) E' (by simpa using hj) (by omega) h2 h3)
end run

def runT := run Eff.wT
def runH := run Eff.wH

/-- The state ahead of operation i, in the order of the text. -/
def upto (i : Nat) : Nat → Bool := fun j => decide (j < i)

def isWh (n : Nat) : List (Nat × HB) → Bool
  | [] => false
  | (m, _) :: l => m == n || isWh n l

/-- Do two operations touch one thing, and one of them writes it? -/
def clash (E G : Eff) : Bool :=
  (match E.wt with | some d => G.rt.contains d || G.wt == some d | none => false) || (match G.wt with | some d => E.rt.contains d | none => false) ||
  (E.wh.any fun x => G.rh.contains x.1 || isWh x.1 G.wh) || (G.wh.any fun x => E.rh.contains x.1)

/-- Which operations come ahead of an operation, as bits; the list is of the operations from number i on, acc of those ahead, the last in front. -/
def aheadOf (after : Array Edge) (acc : List Nat) : Nat :=
  after.toList.foldl (fun s e => if Region.binds .any e then s ||| 2 ^ e.on ||| acc.getD (acc.length - 1 - e.on) 0 else s) 0

/-- Is each clash in order? acc: the bits, pre: the effects, the last in front. -/
def orderly : List Oper → List Eff → (acc : List Nat) → (pre : List Eff) → Bool
  | [], [], _, _ => true
  | o :: os, E :: Es, acc, pre =>
    let b := aheadOf o.after acc
    (o.after.toList.all fun e => !Region.binds .any e || decide (e.on < acc.length)) &&
    (pre.zipIdx.all fun x => !clash x.1 E || b.testBit (pre.length - 1 - x.2)) && orderly os Es (b :: acc) (E :: pre)
  | _, _, _, _ => false

theorem foldl_or_mono (f : Nat → Edge → Nat) (hf : ∀ s e k, s.testBit k = true → (f s e).testBit k = true) : ∀ (l : List Edge) (s k : Nat), s.testBit k = true → (l.foldl f s).testBit k = true
  | [], _, _, h => h
  | e :: l, s, k, h => foldl_or_mono f hf l _ _ (hf s e k h)

/-- What 'ahead' says: whoever is among the bits is done before. -/
theorem ahead_spec (acc : List Nat) (D : Nat → Bool) (hacc : ∀ (j : Nat) b, acc[j]? = some b → D (acc.length - 1 - j) = true → ∀ k, b.testBit k = true → D k = true) (after : Array Edge)
    (hin : after.toList.all (fun e => !Region.binds .any e || decide (e.on < acc.length)) = true) (hD : ∀ e, e ∈ after → Region.binds .any e = true → D e.on = true) :
    ∀ k, (aheadOf after acc).testBit k = true → D k = true := by
  unfold aheadOf
  have key : ∀ (l : List Edge) (s : Nat), (∀ e, e ∈ l → Region.binds .any e = true → D e.on = true ∧ e.on < acc.length) → (∀ k, s.testBit k = true → D k = true) →
      ∀ k, (l.foldl (fun s e => if Region.binds .any e then s ||| 2 ^ e.on ||| acc.getD (acc.length - 1 - e.on) 0 else s) s).testBit k = true → D k = true := by
    intro l
    induction l with
    | nil => intro s _ hs k hk; exact hs k hk
    | cons e l ih =>
      intro s hl hs k hk
      simp only [List.foldl_cons] at hk
      refine ih _ (fun e' he' => hl e' (List.mem_cons_of_mem _ he')) ?_ k hk
      intro k' hk'
      split at hk'
      · rename_i hb
        obtain ⟨hd, hlt⟩ := hl e (List.mem_cons_self ..) hb
        simp only [Nat.testBit_or, Bool.or_eq_true] at hk'
        rcases hk' with (hk' | hk') | hk'
        · exact hs k' hk'
        · rw [Nat.testBit_two_pow] at hk'
          have : e.on = k' := by simpa using hk'
          exact this ▸ hd
        · rw [List.getD_eq_getElem?_getD] at hk'
          cases hj : acc[acc.length - 1 - e.on]? with
          | none => simp [hj] at hk'
          | some b =>
            simp only [hj, Option.getD_some] at hk'
            exact hacc _ b hj (by rw [show acc.length - 1 - (acc.length - 1 - e.on) = e.on from by omega]; exact hd) k' hk'
      · exact hs k' hk'
  refine key after.toList 0 ?_ (fun k hk => by simp at hk)
  intro e he hb
  have h1 := List.all_eq_true.1 hin e he
  simp only [hb, Bool.not_true, Bool.false_or, decide_eq_true_eq] at h1
  exact ⟨hD e (by simpa using he) hb, h1⟩

end Go.Ab

/- The abstract layer, 3: the two theorems on regions. -/
namespace Go.Ab

/-- Names are made in rising order, from lo on. -/
def incr : Nat → List Nat → Bool
  | _, [] => true
  | lo, n :: l => decide (lo ≤ n) && incr (n + 1) l

theorem incr_le : ∀ (l : List Nat) (lo : Nat), incr lo l = true → ∀ n, n ∈ l → lo ≤ n
  | a :: l, lo, h, n, hn => by
    simp only [incr, Bool.and_eq_true, decide_eq_true_eq] at h
    rcases List.mem_cons.1 hn with rfl | hn
    · exact h.1
    · have := incr_le l (a + 1) h.2 n hn; omega

theorem incr_append : ∀ (l m : List Nat) (lo : Nat), incr lo (l ++ m) = true → incr lo l = true ∧ (∀ a b, a ∈ l → b ∈ m → a < b) ∧ incr lo m = true
  | [], m, lo, h => ⟨rfl, fun a b ha => (by cases ha), h⟩
  | c :: l, m, lo, h => by
    simp only [List.cons_append, incr, Bool.and_eq_true, decide_eq_true_eq] at h ⊢
    obtain ⟨h1, h2, h3⟩ := incr_append l m (c + 1) h.2
    refine ⟨⟨h.1, h1⟩, fun a b ha hb => ?_, ?_⟩
    · rcases List.mem_cons.1 ha with rfl | ha
      · have := incr_le m (a + 1) h3 b hb; omega
      · exact h2 a b ha hb
    · have mono : ∀ (m : List Nat) (lo lo' : Nat), lo ≤ lo' → incr lo' m = true → incr lo m = true := by
        intro m lo lo' hl hm
        cases m with
        | nil => rfl
        | cons x m => simp only [incr, Bool.and_eq_true, decide_eq_true_eq] at hm ⊢; exact ⟨by omega, hm.2⟩
      exact mono m lo (c + 1) (by omega) h3

theorem incr_apart {Es : List Eff} {lo : Nat} (h : incr lo (Es.flatMap Eff.fr) = true) : ∀ (i j : Nat) E G n, Es[i]? = some E → Es[j]? = some G → n ∈ E.fr → n ∈ G.fr → i = j := by
  induction Es generalizing lo with
  | nil => intro i j E G n hi; simp at hi
  | cons X Es ih =>
    simp only [List.flatMap_cons] at h
    obtain ⟨_, h2, h3⟩ := incr_append _ _ _ h
    intro i j E G n hi hj hn hm
    have inn : ∀ (k : Nat) Y, Es[k]? = some Y → ∀ n, n ∈ Y.fr → n ∈ Es.flatMap Eff.fr := fun k Y hk n hn => List.mem_flatMap.2 ⟨Y, List.mem_of_getElem? hk, hn⟩
    cases i with
    | zero =>
      cases j with
      | zero => rfl
      | succ j =>
        simp at hi hj; subst hi
        have := h2 n n hn (inn j G hj n hm); omega
    | succ i =>
      cases j with
      | zero =>
        simp at hi hj; subst hj
        have := h2 n n hm (inn i E hi n hn); omega
      | succ j => simp at hi hj; exact congrArg (· + 1) (ih h3 i j E G n hi hj hn hm)

theorem Hp.weaken {B : Base} {A A' : Nat → Prop} {h : Nat → HB} {F : Still} {ρ : Places} {w : World} (hp : Hp B A h F ρ w) (hA : ∀ n, A n → A' n) : Hp B A' h F ρ w :=
  { hp with dom := fun n hn => hA n (hp.dom n hn) }

theorem Ga.weaken {B : Base} {A A' : Nat → Prop} {t : Nat → AV} {h : Nat → HB} {a : Act} {w : World} (g : Ga B A t h a w) (hA : ∀ n, A n → A' n) : Ga B A' t h a w :=
  let ⟨h1, h2, F, ρ, h3, h4⟩ := g
  ⟨h1, h2, F, ρ, h3.weaken hA, h4⟩

theorem Hp.drew {B : Base} {A : Nat → Prop} {h : Nat → HB} {F : Still} {ρ : Places} {w : World} (hp : Hp B A h F ρ w) : Hp B A h F ρ w.drew :=
  { hp with kept := hp.kept.drew, agree := hp.agree, own := fun n => hp.own n }

theorem Ga.drew {B : Base} {A : Nat → Prop} {t : Nat → AV} {h : Nat → HB} {a : Act} {w : World} (g : Ga B A t h a w) : Ga B A t h a w.drew :=
  let ⟨h1, h2, F, ρ, h3, h4⟩ := g
  ⟨h1, h2, F, ρ, h3.drew, h4⟩

/-- A region in the order of the text. -/
theorem wpOps_text {P : Program} {ops : Array Oper} {N : Nat} {B : Base} {Q : Exit → Act → World → Prop} (hN : B.N = N) (Es : List Eff) (lo : Nat) (t0 : Nat → AV) (h0 : Nat → HB) (hlen : Es.length = ops.size)
    (hinc : incr lo (Es.flatMap Eff.fr) = true)
    (hok : ∀ (i : Nat) E, Es[i]? = some E → OpOk P ops N i (runT (upto i) 0 Es t0) (runH (upto i) 0 Es h0) E)
    (hq : ∀ a' w', Ga B (fun n => n < lo ∨ n ∈ Es.flatMap Eff.fr) (runT (upto ops.size) 0 Es t0) (runH (upto ops.size) 0 Es h0) a' w' → Q .normal a' w') :
    ∀ (k m : Nat), m + k = ops.size → ∀ a w, Ga B (fun n => n < lo ∨ ∃ (j : Nat) (E : Eff), j < m ∧ Es[j]? = some E ∧ n ∈ E.fr) (runT (upto m) 0 Es t0) (runH (upto m) 0 Es h0) a w →
      wpOps P ops Q (List.range' m k) a w := by
  intro k
  induction k with
  | zero =>
    intro m hm a w g
    have hm' : m = ops.size := by omega
    subst hm'
    exact hq a w (g.weaken fun n hn => hn.imp (fun h => h) fun ⟨j, E, _, hj, hE⟩ => List.mem_flatMap.2 ⟨E, List.mem_of_getElem? hj, hE⟩)
  | succ k ih =>
    intro m hm a w g
    rw [List.range'_succ, wpOps_cons]
    have hml : m < Es.length := by omega
    have hE : Es[m]? = some Es[m] := List.getElem?_eq_getElem hml
    refine hok m _ hE B _ _ _ a w Q _ hN g (fun _ _ => rfl) (fun _ _ => rfl) ?_ ?_
    · intro n hn hA
      rcases hA with hA | ⟨j, E, hj, hjE, hnE⟩
      · exact Nat.not_lt.2 (incr_le _ _ hinc n (List.mem_flatMap.2 ⟨_, List.mem_of_getElem? hE, hn⟩)) hA
      · exact absurd (incr_apart hinc _ _ _ _ n hE hjE hn hnE) (by omega)
    · intro a' w' g'
      refine ih (m + 1) (by omega) a' w' ?_
      have ht : ∀ {R V : Type} (W : Eff → R → Option V) (x : R → V), (fun r => (W Es[m] r).getD (run W (upto m) 0 Es x r)) = run W (upto (m + 1)) 0 Es x := by
        intro R V W x; funext r
        refine (run_add W (upto m) (upto (m + 1)) r m Es[m] Es 0 x hE (by simp [upto]) (by simp [upto]) (fun j hj => ?_) (fun j E' _ hlt _ _ => by simp [upto]; omega)).symm
        have : j ≠ m := by omega
        simp only [upto, decide_eq_decide]; omega
      have e1 : Es[m].t (runT (upto m) 0 Es t0) = runT (upto (m + 1)) 0 Es t0 := ht Eff.wT t0
      have e2 : Es[m].h (runH (upto m) 0 Es h0) = runH (upto (m + 1)) 0 Es h0 := ht Eff.wH h0
      rw [e1, e2] at g'
      refine g'.weaken fun n hn => ?_
      rcases hn with (hn | ⟨j, E, hj, h1, h2⟩) | hn
      · exact .inl hn
      · exact .inr ⟨j, E, by omega, h1, h2⟩
      · exact .inr ⟨m, _, by omega, hE, hn⟩

theorem orderly_spec : ∀ (os : List Oper) (Es : List Eff) (acc : List Nat) (pre : List Eff) (preos : List Oper), pre.length = acc.length → preos.length = acc.length →
    orderly os Es acc pre = true →
    (∀ (D : Nat → Bool), (∀ (k : Nat) o, preos.reverse[k]? = some o → D k = true → ∀ e, e ∈ o.after → Region.binds .any e = true → D e.on = true) →
      ∀ (j : Nat) b, acc[j]? = some b → D (acc.length - 1 - j) = true → ∀ k, b.testBit k = true → D k = true) →
    os.length = Es.length ∧ ∀ (i : Nat) o E, os[i]? = some o → Es[i]? = some E →
      (∀ e, e ∈ o.after → Region.binds .any e = true → e.on < acc.length + i) ∧
      ∀ (D : Nat → Bool), (∀ (k : Nat) o, (preos.reverse ++ os)[k]? = some o → D k = true → ∀ e, e ∈ o.after → Region.binds .any e = true → D e.on = true) →
        (∀ e, e ∈ o.after → Region.binds .any e = true → D e.on = true) →
        ∀ (j : Nat) G, j < acc.length + i → (pre.reverse ++ Es)[j]? = some G → clash G E = true → D j = true := by
  intro os
  induction os with
  | nil =>
    intro Es acc pre preos _ _ h _
    cases Es with
    | nil => exact ⟨rfl, fun i o E hi => by simp at hi⟩
    | cons E Es => simp [orderly] at h
  | cons o os ih =>
    intro Es acc pre preos hp hpo h hacc
    cases Es with
    | nil => simp [orderly] at h
    | cons E Es =>
      simp only [orderly, Bool.and_eq_true] at h
      obtain ⟨⟨hin, hpre⟩, hrest⟩ := h
      have hacc' : ∀ (D : Nat → Bool), (∀ (k : Nat) o', (o :: preos).reverse[k]? = some o' → D k = true → ∀ e, e ∈ o'.after → Region.binds .any e = true → D e.on = true) →
          ∀ (j : Nat) b, (aheadOf o.after acc :: acc)[j]? = some b → D ((aheadOf o.after acc :: acc).length - 1 - j) = true → ∀ k, b.testBit k = true → D k = true := by
        intro D hD j b hj hDj k hk
        have hD' : ∀ (k : Nat) o', preos.reverse[k]? = some o' → D k = true → ∀ e, e ∈ o'.after → Region.binds .any e = true → D e.on = true := by
          intro k o' hk
          refine hD k o' ?_
          rw [List.reverse_cons, List.getElem?_append_left (by have := (List.getElem?_eq_some_iff.1 hk).1; exact this)]
          exact hk
        cases j with
        | zero =>
          simp only [List.getElem?_cons_zero, Option.some.injEq] at hj
          subst hj
          refine ahead_spec acc D (hacc D hD') o.after hin ?_ k hk
          refine hD acc.length o ?_ (by simpa using hDj)
          rw [List.reverse_cons, List.getElem?_append_right (by simp [hpo])]
          simp [hpo]
        | succ j =>
          simp only [List.getElem?_cons_succ] at hj
          exact hacc D hD' j b hj (by rw [show acc.length - 1 - j = (aheadOf o.after acc :: acc).length - 1 - (j + 1) from by simp; omega]; exact hDj) k hk
      obtain ⟨hl, hrec⟩ := ih Es (aheadOf o.after acc :: acc) (E :: pre) (o :: preos) (by simp [hp]) (by simp [hpo]) hrest hacc'
      refine ⟨by simp [hl], ?_⟩
      intro i oi Ei hoi hEi
      cases i with
      | succ i =>
        simp only [List.getElem?_cons_succ] at hoi hEi
        obtain ⟨h1, h2⟩ := hrec i oi Ei hoi hEi
        refine ⟨fun e he hb => by have := h1 e he hb; simp at this; omega, ?_⟩
        intro D hD hDi j G hj hG hc
        refine h2 D ?_ hDi j G (by simp; omega) ?_ hc
        · simpa using hD
        · simpa using hG
      | zero =>
        simp only [List.getElem?_cons_zero, Option.some.injEq] at hoi hEi
        subst hoi; subst hEi
        refine ⟨fun e he hb => ?_, ?_⟩
        · have h1 := List.all_eq_true.1 hin e (by simpa using he)
          simpa [hb] using h1
        · intro D hD hDi j G hj hG hc
          have hj' : j < pre.length := by omega
          rw [List.getElem?_append_left (by simpa using hj'), List.getElem?_reverse hj'] at hG
          have h1 := List.all_eq_true.1 hpre (G, pre.length - 1 - j) (List.mem_of_getElem? (i := pre.length - 1 - j) (by simp [hG]))
          simp only [hc, Bool.not_true, Bool.false_or] at h1
          rw [show pre.length - 1 - (pre.length - 1 - j) = j from by omega] at h1
          refine ahead_spec acc D (hacc D fun k o' hk => hD k o' ?_) o.after hin hDi j h1
          rw [List.getElem?_append_left (by have := (List.getElem?_eq_some_iff.1 hk).1; exact this)]
          exact hk

theorem count_set {l : List Nat} {p q : Nat → Bool} {i : Nat} (hi : i ∈ l) (hp : p i = true) (hq : q i = false) (hqp : ∀ j, q j = true → p j = true) : l.countP q + 1 ≤ l.countP p := by
  induction l with
  | nil => cases hi
  | cons x l ih =>
    have mono : l.countP q ≤ l.countP p := List.countP_mono_left fun j _ h => hqp j h
    simp only [List.countP_cons]
    rcases List.mem_cons.1 hi with rfl | hi
    · simp [hp, hq]; exact mono
    · have := ih hi
      cases hqx : q x with
      | true => simp [hqp x hqx]; exact this
      | false => simp; omega

theorem clash_t {E G : Eff} {r : Nat} (h : E.wT r ≠ none) (hr : r ∈ G.rt ∨ G.wT r ≠ none) : clash E G = true := by
  have he : E.wt = some r := by unfold Eff.wT at h; split at h <;> simp_all
  unfold clash
  simp only [he]
  rcases hr with hr | hr
  · simp [hr]
  · have hg : G.wt = some r := by unfold Eff.wT at hr; split at hr <;> simp_all
    simp [hg]
theorem clash_t' {E G : Eff} {r : Nat} (h : E.wT r ≠ none) (hr : r ∈ G.rt ∨ G.wT r ≠ none) : clash G E = true := by
  have he : E.wt = some r := by unfold Eff.wT at h; split at h <;> simp_all
  unfold clash
  simp only [he]
  rcases hr with hr | hr
  · simp [hr]
  · have hg : G.wt = some r := by unfold Eff.wT at hr; split at hr <;> simp_all
    simp [hg]
theorem findH_mem : ∀ (l : List (Nat × HB)) (n : Nat), findH l n ≠ none → ∃ x, x ∈ l ∧ x.1 = n
  | [], n, h => absurd rfl h
  | (m, x) :: l, n, h => by
    unfold findH at h
    split at h
    · rename_i e; exact ⟨(m, x), List.mem_cons_self .., e⟩
    · obtain ⟨y, hy, e⟩ := findH_mem l n h; exact ⟨y, List.mem_cons_of_mem _ hy, e⟩
theorem isWh_of : ∀ (l : List (Nat × HB)) (n : Nat), findH l n ≠ none → isWh n l = true
  | [], n, h => absurd rfl h
  | (m, x) :: l, n, h => by
    unfold findH at h
    simp only [isWh, Bool.or_eq_true, beq_iff_eq]
    split at h
    · exact .inl ‹_›
    · exact .inr (isWh_of l n h)
theorem clash_h {E G : Eff} {n : Nat} (h : E.wH n ≠ none) (hr : n ∈ G.rh ∨ G.wH n ≠ none) : clash E G = true := by
  obtain ⟨x, hx, rfl⟩ := findH_mem _ _ h
  have : (E.wh.any fun x => G.rh.contains x.1 || isWh x.1 G.wh) = true := by
    refine List.any_eq_true.2 ⟨x, hx, ?_⟩
    rcases hr with hr | hr
    · simp [hr]
    · simp [isWh_of _ _ hr]
  unfold clash; rw [this]; simp only [Bool.or_true, Bool.true_or]
theorem clash_h' {E G : Eff} {n : Nat} (h : E.wH n ≠ none) (hr : n ∈ G.rh ∨ G.wH n ≠ none) : clash G E = true := by
  obtain ⟨x, hx, rfl⟩ := findH_mem _ _ h
  rcases hr with hr | hr
  · have : (E.wh.any fun x => G.rh.contains x.1) = true := List.any_eq_true.2 ⟨x, hx, by simp [hr]⟩
    unfold clash; rw [this]; simp only [Bool.or_true]
  · obtain ⟨y, hy, e⟩ := findH_mem _ _ hr
    have : (G.wh.any fun x => E.rh.contains x.1 || isWh x.1 E.wh) = true := List.any_eq_true.2 ⟨y, hy, by rw [e, isWh_of _ _ h]; simp⟩
    unfold clash; rw [this]; simp only [Bool.or_true, Bool.true_or]

/-- A region in whatever order its edges allow. -/
theorem region_any {P : Program} {id : Nat} {ops : Array Oper} {N : Nat} {B : Base} {Q : Exit → Act → World → Prop} {a : Act} {w : World} (hm : P.follows .mixedOrders = true) (hN : B.N = N) (Es : List Eff) (lo : Nat)
    (t0 : Nat → AV) (h0 : Nat → HB) (hord : orderly ops.toList Es [] [] = true) (hinc : incr lo (Es.flatMap Eff.fr) = true)
    (hok : ∀ (i : Nat) E, Es[i]? = some E → OpOk P ops N i (runT (upto i) 0 Es t0) (runH (upto i) 0 Es h0) E)
    (hq : ∀ a' w', Ga B (fun n => n < lo ∨ n ∈ Es.flatMap Eff.fr) (runT (upto ops.size) 0 Es t0) (runH (upto ops.size) 0 Es h0) a' w' → Q .normal a' w')
    (g : Ga B (· < lo) t0 h0 a w) : (Code.region id ops true).wp P Q a w := by
  obtain ⟨hlen, hspec⟩ := orderly_spec ops.toList Es [] [] [] rfl rfl hord (fun D _ j b hj => by simp at hj)
  simp only [List.length_nil, Nat.zero_add, List.reverse_nil, List.nil_append] at hspec
  have hlen' : Es.length = ops.size := by simpa using hlen.symm
  refine wp_region_any hm ?_
  have key : ∀ (fuel : Nat) (listed : Array Bool) (a : Act) (w : World), listed.size = ops.size →
      (∀ (k : Nat) o, ops.toList[k]? = some o → listed.getD k false = true → ∀ e, e ∈ o.after → Region.binds .any e = true → listed.getD e.on false = true) →
      (List.range ops.size).countP (fun j => !listed.getD j true) ≤ fuel →
      Ga B (fun n => n < lo ∨ ∃ (j : Nat) (E : Eff), listed.getD j false = true ∧ Es[j]? = some E ∧ n ∈ E.fr) (runT (fun j => listed.getD j false) 0 Es t0) (runH (fun j => listed.getD j false) 0 Es h0) a w →
      wpAny P .any ops Q fuel listed a w := by
    intro fuel
    have hin : ∀ (listed : Array Bool) (j : Nat), listed.size = ops.size → j < ops.size → listed.getD j true = listed.getD j false := by
      intro listed j hs hj
      simp [Array.getD, hs, hj]
    have hdone : ∀ (listed : Array Bool), listed.size = ops.size → Region.ready .any ops listed = [] → ∀ j, j < ops.size → listed.getD j false = true := by
      intro listed hs hr j
      induction j using Nat.strongRecOn with
      | _ j ih =>
        intro hj
        cases hd : listed.getD j false with
        | true => rfl
        | false =>
          exfalso
          have hoj : ops.toList[j]? = some ops.toList[j] := List.getElem?_eq_getElem (by simpa using hj)
          have hEj : Es[j]? = some (Es[j]'(by omega)) := List.getElem?_eq_getElem (by omega)
          have : j ∈ Region.ready .any ops listed := mem_ready.2 ⟨by rw [hin listed j hs hj]; exact hd, ops.toList[j], by rw [← Array.getElem?_toList]; exact hoj, fun e he hb => by
            have hlt := (hspec j _ _ hoj hEj).1 e he hb
            exact ih e.on hlt (by omega)⟩
          rw [hr] at this; cases this
    have hend : ∀ (listed : Array Bool) a w, listed.size = ops.size → Region.ready .any ops listed = [] →
        Ga B (fun n => n < lo ∨ ∃ (j : Nat) (E : Eff), listed.getD j false = true ∧ Es[j]? = some E ∧ n ∈ E.fr) (runT (fun j => listed.getD j false) 0 Es t0) (runH (fun j => listed.getD j false) 0 Es h0) a w → Q .normal a w := by
      intro listed a w hs hr g
      have hall := hdone listed hs hr
      have ht : ∀ {R V : Type} (W : Eff → R → Option V) (x : R → V), run W (fun j => listed.getD j false) 0 Es x = run W (upto ops.size) 0 Es x := by
        intro R V W x; funext r
        refine run_congr W _ _ r Es 0 x x rfl fun j E hj _ => ?_
        have hjl : j < ops.size := by have := (List.getElem?_eq_some_iff.1 hj).1; omega
        rw [Nat.zero_add]
        simp only [hall j hjl, upto, hjl, decide_true]
      have e1 : runT (fun j => listed.getD j false) 0 Es t0 = runT (upto ops.size) 0 Es t0 := ht Eff.wT t0
      have e2 : runH (fun j => listed.getD j false) 0 Es h0 = runH (upto ops.size) 0 Es h0 := ht Eff.wH h0
      rw [e1, e2] at g
      exact hq a w (g.weaken fun n hn => hn.imp (fun h => h) fun ⟨j, E, _, hj, hE⟩ => List.mem_flatMap.2 ⟨E, List.mem_of_getElem? hj, hE⟩)
    induction fuel with
    | zero =>
      intro listed a w hs hcl hcount g
      have hr : Region.ready .any ops listed = [] := by
        refine List.eq_nil_iff_forall_not_mem.2 fun j hj => ?_
        obtain ⟨hju, o, ho, _⟩ := mem_ready.1 hj
        have hjl : j < ops.size := (Array.getElem?_eq_some_iff.1 ho).1
        have := List.countP_pos_iff (p := fun j => !listed.getD j true) |>.2 ⟨j, List.mem_range.2 hjl, by simp [hju]⟩
        omega
      exact ⟨hr, hend listed a w hs hr g⟩
    | succ fuel ih =>
      intro listed a w hs hcl hcount g
      refine ⟨fun hr => hend listed a w hs hr g, fun i hi => ?_⟩
      obtain ⟨hiu, o, ho, hall⟩ := mem_ready.1 hi
      have hil : i < ops.size := (Array.getElem?_eq_some_iff.1 ho).1
      have hD : listed.getD i false = false := by rw [← hin listed i hs hil]; exact hiu
      have hoi : ops.toList[i]? = some o := by rw [Array.getElem?_toList]; exact ho
      have hE : Es[i]? = some (Es[i]'(by omega)) := List.getElem?_eq_getElem (by omega)
      -- whoever clashes with i is done just if he stands ahead of it
      have hbef : ∀ (m : Nat) G, m < i → Es[m]? = some G → clash G (Es[i]'(by omega)) = true → listed.getD m false = true := fun m G hm hG hc =>
        (hspec i o _ hoi hE).2 (fun j => listed.getD j false) hcl hall m G hm hG hc
      have haft : ∀ (m : Nat) G, i < m → Es[m]? = some G → clash (Es[i]'(by omega)) G = true → listed.getD m false = false := by
        intro m G hm hG hc
        cases hd : listed.getD m false with
        | false => rfl
        | true =>
          exfalso
          have hml : m < ops.size := by have := (List.getElem?_eq_some_iff.1 hG).1; omega
          have hom : ops.toList[m]? = some ops.toList[m] := List.getElem?_eq_getElem (by simpa using hml)
          have := (hspec m _ _ hom hG).2 (fun j => listed.getD j false) hcl (hcl m _ hom hd) i _ hm hE hc
          simp only [hD] at this
          cases this
      have hread : ∀ {R V : Type} (W : Eff → R → Option V) (x : R → V) (r : R), (∀ (m : Nat) G, Es[m]? = some G → W G r ≠ none → m ≠ i → clash G (Es[i]'(by omega)) = true ∧ clash (Es[i]'(by omega)) G = true) →
          run W (fun j => listed.getD j false) 0 Es x r = run W (upto i) 0 Es x r := by
        intro R V W x r hcl'
        refine run_congr W _ _ r Es 0 x x rfl fun m G hm hw => ?_
        rw [Nat.zero_add]
        by_cases hmi : m = i
        · subst hmi; simp only [hD, upto, Nat.lt_irrefl, decide_false]
        · obtain ⟨c1, c2⟩ := hcl' m G hm hw hmi
          rcases Nat.lt_or_ge m i with hlt | hge
          · simp only [hbef m G hlt hm c1, upto, hlt, decide_true]
          · simp only [haft m G (by omega) hm c2, upto, show ¬ m < i from by omega, decide_false]
      refine hok i _ hE B _ _ _ a w Q _ hN g ?_ ?_ ?_ ?_
      · intro r hr
        exact hread Eff.wT t0 r fun m G _ hw _ => ⟨clash_t hw (.inl hr), clash_t' hw (.inl hr)⟩
      · intro n hn
        exact hread Eff.wH h0 n fun m G _ hw _ => ⟨clash_h hw (.inl hn), clash_h' hw (.inl hn)⟩
      · intro n hn hA
        rcases hA with hA | ⟨j, G, hj, hjG, hnG⟩
        · exact Nat.not_lt.2 (incr_le _ _ hinc n (List.mem_flatMap.2 ⟨_, List.mem_of_getElem? hE, hn⟩)) hA
        · have := incr_apart hinc _ _ _ _ n hE hjG hn hnG
          subst this
          rw [hD] at hj; cases hj
      · intro a' w' g'
        have hset : ∀ j, j ≠ i → (listed.setIfInBounds i true).getD j false = listed.getD j false := fun j hj => getD_set_ne false (Ne.symm hj)
        have hseti : (listed.setIfInBounds i true).getD i false = true := by simp [hs, hil]
        refine ih (listed.setIfInBounds i true) a' w' (by simp [hs]) ?_ ?_ ?_
        · intro k o' hk hkd e he hb
          by_cases hki : k = i
          · subst hki
            rw [hoi] at hk; injection hk with hk; subst hk
            exact getD_set_true (hall e he hb)
          · rw [hset k hki] at hkd
            exact getD_set_true (hcl k o' hk hkd e he hb)
        · have := count_set (l := List.range ops.size) (p := fun j => !listed.getD j true) (q := fun j => !(listed.setIfInBounds i true).getD j true) (i := i) (List.mem_range.2 hil) (by simp [hiu])
            (by rw [hin _ _ (by simp [hs]) hil, hseti]; rfl) (fun j hj => by
              by_cases hji : j = i
              · subst hji; simp [hiu]
              · rw [getD_set_ne true (Ne.symm hji)] at hj; exact hj)
          omega
        · have hadd : ∀ {R V : Type} (W : Eff → R → Option V) (x : R → V), (∀ (m : Nat) G r, Es[m]? = some G → W (Es[i]'(by omega)) r ≠ none → W G r ≠ none → clash (Es[i]'(by omega)) G = true) →
              (fun r => (W (Es[i]'(by omega)) r).getD (run W (fun j => listed.getD j false) 0 Es x r)) = run W (fun j => (listed.setIfInBounds i true).getD j false) 0 Es x := by
            intro R V W x hcl'; funext r
            refine (run_add W (fun j => listed.getD j false) (fun j => (listed.setIfInBounds i true).getD j false) r i _ Es 0 x hE (by rw [Nat.zero_add]; exact hD) (by rw [Nat.zero_add]; exact hseti)
              (fun j hj => hset j (by omega)) (fun m G hG hlt h1 h2 => ?_)).symm
            rw [Nat.zero_add]
            exact haft m G hlt hG (hcl' m G r hG h1 h2)
          have e1 : Eff.t (Es[i]'(by omega)) (runT (fun j => listed.getD j false) 0 Es t0) = runT (fun j => (listed.setIfInBounds i true).getD j false) 0 Es t0 :=
            hadd Eff.wT t0 fun m G r _ h1 h2 => clash_t h1 (.inr h2)
          have e2 : Eff.h (Es[i]'(by omega)) (runH (fun j => listed.getD j false) 0 Es h0) = runH (fun j => (listed.setIfInBounds i true).getD j false) 0 Es h0 :=
            hadd Eff.wH h0 fun m G r _ h1 h2 => clash_h h1 (.inr h2)
          rw [e1, e2] at g'
          refine g'.weaken fun n hn => ?_
          rcases hn with (hn | ⟨j, G, hj, h1, h2⟩) | hn
          · exact .inl hn
          · exact .inr ⟨j, G, getD_set_true hj, h1, h2⟩
          · exact .inr ⟨i, _, hseti, hE, hn⟩
  refine key ops.size (Array.replicate ops.size false) a _ (by simp) ?_ ?_ ?_
  · intro k o _ hk; simp [Array.getD] at hk
  · exact Nat.le_trans (List.countP_le_length) (by simp)
  · have hz : ∀ {R V : Type} (W : Eff → R → Option V) (x : R → V), x = run W (fun j => (Array.replicate ops.size false).getD j false) 0 Es x := by
      intro R V W x; funext r
      have : ∀ (Es : List Eff) (i : Nat) (y : R → V), run W (fun _ => false) i Es y r = y r := by
        intro Es
        induction Es with
        | nil => intro i y; rfl
        | cons E Es ih => intro i y; simp only [run]; rw [ih]; simp
      rw [show (fun j => (Array.replicate ops.size false).getD j false) = (fun _ => false) from by funext j; simp [Array.getD]]
      exact (this Es 0 x).symm
    have e1 : t0 = runT (fun j => (Array.replicate ops.size false).getD j false) 0 Es t0 := hz Eff.wT t0
    have e2 : h0 = runH (fun j => (Array.replicate ops.size false).getD j false) 0 Es h0 := hz Eff.wH h0
    have g' := g.drew
    rw [e1, e2] at g'
    exact g'.weaken fun n hn => .inl hn
end Go.Ab

/- The abstract layer, 4: operations, one by one (values; loads and stores stand in the next text). -/
set_option linter.unusedSimpArgs false
namespace Go.Ab
open Go.RowKit

/-- The constant of a text, as an abstract value. -/
def ofV : Value → AV
  | .slice none 0 0 => .sl true []
  | .agg _ | .tuple _ => .junk
  | x => .v x

theorem ofV_sound (F : Still) (ρ : Places) (x : Value) : M F ρ x (ofV x) := by
  unfold ofV
  split
  · exact .sl0 _ none 0 true (fun _ => rfl) (fun _ => rfl)
  · exact .junk _ _
  · exact .junk _ _
  · rename_i h1 h2 h3
    refine .v _ x ?_
    cases x <;> simp_all [single]

/-- An operand, as the state tells it. -/
def evA (t : Nat → AV) : Operand → AV
  | .tmp j => t j
  | .const v => ofV v
  | .global _ => .junk
  | .func f => .clo (.func f) [] []

def opT : Operand → List Nat
  | .tmp j => [j]
  | _ => []

theorem evA_sound {F : Still} {ρ : Places} {t : Nat → AV} {a : Act} {x : Operand} {rt : List Nat} (hs : ∀ j, j ∈ rt → M F ρ (a.tmps.getD j undef) (t j)) (hx : ∀ j, j ∈ opT x → j ∈ rt) : M F ρ (a.eval x) (evA t x) := by
  cases x with
  | tmp j => exact hs j (hx j (by simp [opT]))
  | const v => exact ofV_sound F ρ v
  | global g => exact .junk _ _
  | func f => exact .clo _ (.func f) [] [] [] [] rfl rfl (fun i v x h => by simp at h) (fun i v x h => by simp at h)

/-- The operation does just that (its guard left aside), wherever what it reads is as told. -/
def ExOk (P : Program) (N : Nat) (o : Oper) (t : Nat → AV) (h : Nat → HB) (E : Eff) : Prop :=
  ∀ (B : Base) (A : Nat → Prop) (t' : Nat → AV) (h' : Nat → HB) (a : Act) (w : World) (Q : Exit → Act → World → Prop) (K : Act → World → Prop),
    B.N = N → Ga B A t' h' a w → (∀ j, j ∈ E.rt → t' j = t j) → (∀ n, n ∈ E.rh → h' n = h n) → (∀ n, n ∈ E.fr → ¬ A n) →
    (∀ a' w', Ga B (fun n => A n ∨ n ∈ E.fr) (E.t t') (E.h h') a' w' → K a' w') → o.wp P a w K Q

theorem put_getD (a : Act) (d i : Nat) (v : Value) (hd : d < a.tmps.size) : ((a.put (some d) v).tmps).getD i undef = if d = i then v else a.tmps.getD i undef := by
  simp only [Act.put, Array.getD_eq_getD_getElem?, Array.getElem?_setIfInBounds]
  by_cases h : d = i
  · subst h; simp [hd]
  · simp [h]

theorem put_size (a : Act) (d : Option Nat) (v : Value) : (a.put d v).tmps.size = a.tmps.size := by
  cases d <;> simp [Act.put]

/-- An operation that yields a value and changes no memory. -/
theorem ex_pure {P : Program} {N : Nat} {o : Oper} {t : Nat → AV} {h : Nat → HB} {d : Nat} {x : AV} (rt : List Nat) (rh : List Nat) (hd : o.dst = some d) (hN : d < N)
    (hrun : ∀ F ρ (a : Act) (w : World), (∀ b o', F b = some o' → w.heap[b]? = some o') → (∀ j, j ∈ rt → M F ρ (a.tmps.getD j undef) (t j)) → (∀ n, n ∈ rh → OwnAt F ρ w n (h n)) →
      ∃ v, (execOp a.eval o).run P w = .ok (.value v) w ∧ M F ρ v x) : ExOk P N o t h ⟨rt, rh, some d, x, [], []⟩ := by
  intro B A t' h' a w Q K hBN g hrt hrh _ hK
  obtain ⟨g1, g2, F, ρ, hp, g4⟩ := g
  obtain ⟨v, hv, hx⟩ := hrun F ρ a w hp.agree (fun j hj => (hrt j hj) ▸ g4 j) (fun n hn => (hrh n hn) ▸ hp.own n)
  unfold Oper.wp
  rw [hv, Oper.upon_value]
  refine hK _ _ ⟨?_, by rw [put_size]; exact g2, F, ρ, hp.weaken fun n hn => .inl hn, fun i => ?_⟩
  · cases ho : o.dst <;> simpa [Act.put] using g1
  · rw [hd, put_getD _ _ _ _ (by omega)]
    unfold Eff.t Eff.wT
    by_cases hi : d = i
    · subst hi; simpa using hx
    · simpa [hi] using g4 i

section values
variable {F : Still} {ρ : Places}
theorem M.v_inv {v x : Value} (h : M F ρ v (.v x)) : v = x ∧ single x = true := by cases h; exact ⟨rfl, by assumption⟩
theorem M.agg_inv {v : Value} {xs : List AV} (h : M F ρ v (.agg xs)) : ∃ vs : List Value, v = .agg vs.toArray ∧ vs.length = xs.length ∧ ∀ (i : Nat) v x, vs[i]? = some v → xs[i]? = some x → M F ρ v x := by
  cases h with | agg _ vs xs hl h => exact ⟨vs, rfl, hl, h⟩
theorem M.tup_inv {v : Value} {xs : List AV} (h : M F ρ v (.tup xs)) : ∃ vs : List Value, v = .tuple vs.toArray ∧ vs.length = xs.length ∧ ∀ (i : Nat) v x, vs[i]? = some v → xs[i]? = some x → M F ρ v x := by
  cases h with | tup _ vs xs hl h => exact ⟨vs, rfl, hl, h⟩
end values

section ops
variable {P : Program} {N d : Nat} {ty : TypeId} {pos : String} {af : Array Edge} {gd : Option (Nat × Bool)} {t : Nat → AV} {h : Nat → HB}

theorem ex_move (x : Operand) (y : AV) (hx : evA t x = y) (hN : d < N) : ExOk P N ⟨some d, .move x, ty, pos, af, gd⟩ t h ⟨opT x, [], some d, y, [], []⟩ :=
  ex_pure _ _ rfl hN fun F ρ a w _ hs _ => ⟨a.eval x, by simp [execOp], hx ▸ evA_sound hs (fun j hj => hj)⟩

theorem ex_assign (x : Operand) (y : AV) (hx : evA t x = y) (hN : d < N) : ExOk P N ⟨some d, .assign x, ty, pos, af, gd⟩ t h ⟨opT x, [], some d, y, [], []⟩ :=
  ex_pure _ _ rfl hN fun F ρ a w _ hs _ => ⟨a.eval x, by simp [execOp], hx ▸ evA_sound hs (fun j hj => hj)⟩

theorem ex_pick_true (c x y : Operand) (z : AV) (hc : evA t c = .v (.bool true)) (hx : evA t x = z) (hN : d < N) : ExOk P N ⟨some d, .pick c x y, ty, pos, af, gd⟩ t h ⟨opT c ++ opT x, [], some d, z, [], []⟩ :=
  ex_pure _ _ rfl hN fun F ρ a w _ hs _ => by
    have h1 := evA_sound (x := c) hs (fun j hj => List.mem_append_left _ hj)
    rw [hc] at h1
    obtain ⟨h1, _⟩ := h1.v_inv
    exact ⟨a.eval x, by simp [execOp, h1, asBool], hx ▸ evA_sound hs (fun j hj => List.mem_append_right _ hj)⟩
theorem ex_pick_false (c x y : Operand) (z : AV) (hc : evA t c = .v (.bool false)) (hx : evA t y = z) (hN : d < N) : ExOk P N ⟨some d, .pick c x y, ty, pos, af, gd⟩ t h ⟨opT c ++ opT y, [], some d, z, [], []⟩ :=
  ex_pure _ _ rfl hN fun F ρ a w _ hs _ => by
    have h1 := evA_sound (x := c) hs (fun j hj => List.mem_append_left _ hj)
    rw [hc] at h1
    obtain ⟨h1, _⟩ := h1.v_inv
    exact ⟨a.eval y, by simp [execOp, h1, asBool], hx ▸ evA_sound hs (fun j hj => List.mem_append_right _ hj)⟩
/-- The test of a pick is known by now. -/
theorem ex_pick (c x y : Operand) (b : Bool) (z : AV) (hc : evA t c = .v (.bool b)) (b' : Bool) (hb : b = b') (hz : (if b' then evA t x else evA t y) = z) (hN : d < N) :
    ExOk P N ⟨some d, .pick c x y, ty, pos, af, gd⟩ t h ⟨opT c ++ (if b' then opT x else opT y), [], some d, z, [], []⟩ := by
  subst hb
  cases b
  · exact ex_pick_false c x y z hc hz hN
  · exact ex_pick_true c x y z hc hz hN

/-- Two integers. -/
theorem ex_int (op : BinOp) (T : TypeId) (x y : Operand) (yT : TypeId) (k : IntKind) (a b : Int) (r : Value) (hx : evA t x = .v (.int k a)) (hy : evA t y = .v (.int k b)) (hr : single r = true)
    (hop : ∀ w, (binOp op T (.int k a) (.int k b)).run P w = .ok r w) (hN : d < N) :
    ExOk P N ⟨some d, .binOp op T x y yT, ty, pos, af, gd⟩ t h ⟨opT x ++ opT y, [], some d, .v r, [], []⟩ :=
  ex_pure _ _ rfl hN fun F ρ act w _ hs _ => by
    have h1 := evA_sound (x := x) hs (fun j hj => List.mem_append_left _ hj)
    have h2 := evA_sound (x := y) hs (fun j hj => List.mem_append_right _ hj)
    rw [hx] at h1; rw [hy] at h2
    obtain ⟨h1, _⟩ := h1.v_inv
    obtain ⟨h2, _⟩ := h2.v_inv
    refine ⟨r, ?_, .v _ r hr⟩
    simp only [execOp, h1, h2, eqGuard, Sem.run_bind, hop]
    cases op <;> simp [Result.andThen]

theorem wrap_id (z : Int) (h1 : -9223372036854775808 ≤ z) (h2 : z ≤ 9223372036854775807) : IntKind.i64.wrap z = z := IntWalk.i64_in _ ⟨h1, h2⟩

theorem ex_add (T : TypeId) (x y : Operand) (yT : TypeId) (a b : Int) (hx : evA t x = .v (.int .i64 a)) (hy : evA t y = .v (.int .i64 b)) (h1 : -9223372036854775808 ≤ a + b) (h2 : a + b ≤ 9223372036854775807) (hN : d < N) :
    ExOk P N ⟨some d, .binOp .add T x y yT, ty, pos, af, gd⟩ t h ⟨opT x ++ opT y, [], some d, .v (.int .i64 (a + b)), [], []⟩ :=
  ex_int .add T x y yT .i64 a b _ hx hy rfl (fun w => by simp [binOp, Op.intArith, wrap_id _ h1 h2]) hN
theorem ex_sub (T : TypeId) (x y : Operand) (yT : TypeId) (a b : Int) (hx : evA t x = .v (.int .i64 a)) (hy : evA t y = .v (.int .i64 b)) (h1 : -9223372036854775808 ≤ a - b) (h2 : a - b ≤ 9223372036854775807) (hN : d < N) :
    ExOk P N ⟨some d, .binOp .sub T x y yT, ty, pos, af, gd⟩ t h ⟨opT x ++ opT y, [], some d, .v (.int .i64 (a - b)), [], []⟩ :=
  ex_int .sub T x y yT .i64 a b _ hx hy rfl (fun w => by simp [binOp, Op.intArith, wrap_id _ h1 h2]) hN
theorem ex_mul (T : TypeId) (x y : Operand) (yT : TypeId) (a b : Int) (hx : evA t x = .v (.int .i64 a)) (hy : evA t y = .v (.int .i64 b)) (h1 : -9223372036854775808 ≤ a * b) (h2 : a * b ≤ 9223372036854775807) (hN : d < N) :
    ExOk P N ⟨some d, .binOp .mul T x y yT, ty, pos, af, gd⟩ t h ⟨opT x ++ opT y, [], some d, .v (.int .i64 (a * b)), [], []⟩ :=
  ex_int .mul T x y yT .i64 a b _ hx hy rfl (fun w => by simp [binOp, Op.intArith, wrap_id _ h1 h2]) hN
/-- A sum that may not fit. -/
theorem ex_addw (T : TypeId) (x y : Operand) (yT : TypeId) (k : IntKind) (a b : Int) (hx : evA t x = .v (.int k a)) (hy : evA t y = .v (.int k b)) (hN : d < N) :
    ExOk P N ⟨some d, .binOp .add T x y yT, ty, pos, af, gd⟩ t h ⟨opT x ++ opT y, [], some d, .v (.int k (k.wrap (a + b))), [], []⟩ :=
  ex_int .add T x y yT k a b _ hx hy rfl (fun w => by simp [binOp, Op.intArith]) hN
theorem ex_subw (T : TypeId) (x y : Operand) (yT : TypeId) (k : IntKind) (a b : Int) (hx : evA t x = .v (.int k a)) (hy : evA t y = .v (.int k b)) (hN : d < N) :
    ExOk P N ⟨some d, .binOp .sub T x y yT, ty, pos, af, gd⟩ t h ⟨opT x ++ opT y, [], some d, .v (.int k (k.wrap (a - b))), [], []⟩ :=
  ex_int .sub T x y yT k a b _ hx hy rfl (fun w => by simp [binOp, Op.intArith]) hN

/-- The comparisons. -/
def icmp : BinOp → Int → Int → Option Bool
  | .eql, a, b => some (decide (a = b))
  | .neq, a, b => some (!decide (a = b))
  | .lss, a, b => some (decide (a < b))
  | .leq, a, b => some (decide (a ≤ b))
  | .gtr, a, b => some (decide (b < a))
  | .geq, a, b => some (decide (b ≤ a))
  | _, _, _ => none
theorem ibeq (a b : Int) : (a == b) = decide (a = b) := by
  by_cases h : a = b <;> simp [h]
theorem ex_icmp (op : BinOp) (T : TypeId) (x y : Operand) (yT : TypeId) (k : IntKind) (a b : Int) (c : Bool) (hx : evA t x = .v (.int k a)) (hy : evA t y = .v (.int k b)) (hc : icmp op a b = some c) (hN : d < N) :
    ExOk P N ⟨some d, .binOp op T x y yT, ty, pos, af, gd⟩ t h ⟨opT x ++ opT y, [], some d, .v (.bool c), [], []⟩ :=
  ex_int op T x y yT k a b _ hx hy rfl (fun w => by
    cases op <;> simp only [icmp, Option.some.injEq, reduceCtorEq] at hc <;> subst hc <;> simp [binOp, Op.intCmp, ibeq, bne] ) hN

theorem ex_not (T : TypeId) (x : Operand) (b : Bool) (hx : evA t x = .v (.bool b)) (hN : d < N) : ExOk P N ⟨some d, .unOp .not T x, ty, pos, af, gd⟩ t h ⟨opT x, [], some d, .v (.bool (!b)), [], []⟩ :=
  ex_pure _ _ rfl hN fun F ρ a w _ hs _ => by
    have h1 := evA_sound (x := x) hs (fun j hj => hj)
    rw [hx] at h1
    obtain ⟨h1, _⟩ := h1.v_inv
    exact ⟨.bool (!b), by simp [execOp, h1, Op.unary, Result.andThen], .v _ _ rfl⟩
theorem ex_neg (T : TypeId) (x : Operand) (a : Int) (hx : evA t x = .v (.int .i64 a)) (h1 : -9223372036854775807 ≤ a) (h2 : a ≤ 9223372036854775807) (hN : d < N) :
    ExOk P N ⟨some d, .unOp .neg T x, ty, pos, af, gd⟩ t h ⟨opT x, [], some d, .v (.int .i64 (-a)), [], []⟩ :=
  ex_pure _ _ rfl hN fun F ρ act w _ hs _ => by
    have h3 := evA_sound (x := x) hs (fun j hj => hj)
    rw [hx] at h3
    obtain ⟨h3, _⟩ := h3.v_inv
    have := wrap_id (0 - a) (by omega) (by omega)
    exact ⟨.int .i64 (-a), by simp only [execOp, h3, Op.unary, Op.intArith, this]; simp [Result.andThen], .v _ _ rfl⟩

/-- A part of several results. -/
theorem ex_extract (x : Operand) (i : Nat) (cs : List AV) (y : AV) (hx : evA t x = .tup cs) (hy : cs[i]? = some y) (hN : d < N) : ExOk P N ⟨some d, .extract x i, ty, pos, af, gd⟩ t h ⟨opT x, [], some d, y, [], []⟩ :=
  ex_pure _ _ rfl hN fun F ρ a w _ hs _ => by
    have h1 := evA_sound (x := x) hs (fun j hj => hj)
    rw [hx] at h1
    obtain ⟨vs, h1, hl, hm⟩ := h1.tup_inv
    have hi : i < vs.length := by have := (List.getElem?_eq_some_iff.1 hy).1; omega
    have hv : vs[i]? = some vs[i] := List.getElem?_eq_getElem hi
    exact ⟨vs[i], by simp [execOp, h1, Instr.extract, hi, Result.andThen], hm i _ _ hv hy⟩

theorem ex_func (fn : Fn) (first cap : Array Operand) (hN : d < N) :
    ExOk P N ⟨some d, .makeFunc fn first cap, ty, pos, af, gd⟩ t h ⟨first.toList.flatMap opT ++ cap.toList.flatMap opT, [], some d, .clo fn (first.toList.map (evA t)) (cap.toList.map (evA t)), [], []⟩ :=
  ex_pure _ _ rfl hN fun F ρ a w _ hs _ => by
    refine ⟨.func fn (first.map a.eval) (cap.map a.eval), by simp [execOp, Instr.makeFunc, Result.andThen], ?_⟩
    have key : ∀ (l : List Operand) (rt : List Nat), (∀ j, j ∈ l.flatMap opT → j ∈ rt) → (∀ j, j ∈ rt → M F ρ (a.tmps.getD j undef) (t j)) → ∀ (i : Nat) v x, (l.map a.eval)[i]? = some v → (l.map (evA t))[i]? = some x → M F ρ v x := by
      intro l rt hin hs i v x hv hx
      rw [List.getElem?_map] at hv hx
      cases hl : l[i]? with
      | none => simp [hl] at hv
      | some o =>
        simp only [hl, Option.map_some, Option.some.injEq] at hv hx
        subst hv; subst hx
        exact evA_sound hs fun j hj => hin j (List.mem_flatMap.2 ⟨o, List.mem_of_getElem? hl, hj⟩)
    have e1 : first.map a.eval = (first.toList.map a.eval).toArray := by rw [← Array.toList_map]
    have e2 : cap.map a.eval = (cap.toList.map a.eval).toArray := by rw [← Array.toList_map]
    rw [e1, e2]
    exact .clo _ fn _ _ _ _ (by simp) (by simp) (key _ _ (fun j hj => List.mem_append_left _ hj) hs) (key _ _ (fun j hj => List.mem_append_right _ hj) hs)

end ops
end Go.Ab

/- The abstract layer, 5: types as a table; loads, stores, new memory. -/
set_option linter.unusedSimpArgs false
namespace Go.Ab
open Go.RowKit

/-- The kind of a type, as far as it is wanted here. -/
inductive TK where
  | int (k : IntKind)
  | bool
  | string
  | slice (e : Nat)
  | pointer (e : Nat)
  | array (n e : Nat)
  | struct (fs : List (Nat × Nat))
  | map (k e : Nat)
  | other

structure TRec where
  kind : TK
  agg : Bool
  size : Nat
  bytes : Nat
  zero : List Value

def kindOf : TypeDesc → TK
  | .int k => .int k
  | .bool => .bool
  | .string => .string
  | .slice e => .slice e
  | .pointer e => .pointer e
  | .array n e => .array n e
  | .struct fs => .struct (fs.toList.map fun f => (f.offset, f.type))
  | .map k e => .map k e
  | _ => .other

def isAggD : TypeDesc → Bool
  | .struct _ | .array _ _ => true
  | _ => false

def trec (P : Program) (T : Nat) : Option TRec :=
  match P.underlying T, P.info? T with
  | some d, some i => i.zero.map fun z => { kind := kindOf d, agg := isAggD d, size := i.size, bytes := i.bytes, zero := z.cells.toList }
  | _, _ => none

theorem trec_spec {P : Program} {T : Nat} {r : TRec} (h : trec P T = some r) : ∃ d i z, P.underlying T = some d ∧ P.info? T = some i ∧ i.zero = some z ∧ r.kind = kindOf d ∧ r.agg = isAggD d ∧ i.size = r.size ∧ i.bytes = r.bytes ∧ z.cells = r.zero.toArray := by
  unfold trec at h
  split at h
  · rename_i d i hd hi
    cases hz : i.zero with
    | none => simp [hz] at h
    | some z =>
      simp only [hz, Option.map_some, Option.some.injEq] at h
      subst h
      exact ⟨d, i, z, hd, hi, hz, rfl, rfl, rfl, rfl, by simp⟩
  · cases h

theorem run_isAgg {P : Program} {T : Nat} {r : TRec} (h : trec P T = some r) (w : World) : (isAgg T).run P w = .ok r.agg w := by
  obtain ⟨d, i, z, hd, _, _, _, ha, _⟩ := trec_spec h
  unfold isAgg
  simp only [Sem.run_bind, run_underlying hd, Result.andThen_ok]
  rw [ha]
  cases d <;> rfl
theorem run_sizeOf {P : Program} {T : Nat} {r : TRec} (h : trec P T = some r) (w : World) : (sizeOf T).run P w = .ok r.size w := by
  obtain ⟨d, i, z, _, hi, _, _, _, hs, _⟩ := trec_spec h
  simp [sizeOf, typeInfo, hi, hs]
theorem run_zeroOf {P : Program} {T : Nat} {r : TRec} (h : trec P T = some r) (w : World) : ∃ z, (zeroValue T).run P w = .ok z w ∧ z.cells = r.zero.toArray := by
  obtain ⟨d, i, z, _, hi, hz, _, _, _, _, hc⟩ := trec_spec h
  exact ⟨z, by simp [zeroValue, typeInfo, hi, hz], hc⟩

/-- What stands from cell j on in a row, at a type. -/
def cut (r : TRec) (row : List AV) (j : Nat) : Option AV :=
  if r.agg then (if j + r.size ≤ row.length then some (.agg ((row.drop j).take r.size)) else none) else row[j]?

theorem getElem?_drop_take {α : Type} (l : List α) (a n i : Nat) (h : i < n) : ((l.drop a).take n)[i]? = l[a + i]? := by
  rw [List.getElem?_take, if_pos h, List.getElem?_drop]

/-- A load out of a block whose cells are known. -/
theorem run_load {P : Program} {F : Still} {ρ : Places} {w : World} {b : Nat} {c : Array Value} {e : TypeId} {fr : Nat × Nat} (hb : w.heap[b]? = some (.cells c e fr)) {T : Nat} {r : TRec} (hT : trec P T = some r)
    {base j : Nat} {row : List AV} {x : AV} (hs : base + row.length ≤ c.size) (hrow : ∀ (j : Nat) x v, row[j]? = some x → c[base + j]? = some v → M F ρ v x) (hx : cut r row j = some x) :
    ∃ v, (loadVar T ⟨b, base + j, none⟩).run P w = .ok v w ∧ M F ρ v x := by
  have hcell : ∀ i, w.cell? ⟨b, i, none⟩ = c[i]? := fun i => by simp [World.cell?, hb]
  unfold cut at hx
  unfold loadVar
  cases hagg : r.agg with
  | false =>
    simp only [hagg, Bool.false_eq_true, if_false] at hx
    have hj : j < row.length := (List.getElem?_eq_some_iff.1 hx).1
    have hv : c[base + j]? = some (c[base + j]'(by omega)) := Array.getElem?_eq_getElem (by omega)
    refine ⟨_, ?_, hrow j x _ hx hv⟩
    simp only [Sem.run_bind, run_isAgg hT, hagg, Result.andThen_ok, Bool.false_eq_true, if_false]
    simp [load, Sem.run, hcell, hv]
  | true =>
    simp only [hagg, if_true] at hx
    split at hx
    · rename_i hle
      simp only [Option.some.injEq] at hx
      subst hx
      let cs := (c.toList.drop (base + j)).take r.size
      have hlen : cs.length = r.size := by simp [cs]; omega
      have hload := run_loadCells_list (P := P) w ⟨b, base + j, none⟩ cs (fun i v hi => by
        have hil : i < r.size := by have := (List.getElem?_eq_some_iff.1 hi).1; omega
        rw [getElem?_drop_take _ _ _ _ hil] at hi
        have : (⟨b, base + j, none⟩ : Addr).add i = ⟨b, base + j + i, none⟩ := by unfold Addr.add; split <;> simp_all
        rw [this, hcell]; simpa using hi)
      rw [hlen] at hload
      refine ⟨.agg cs.toArray, ?_, .agg _ cs _ (by rw [hlen]; simp; omega) ?_⟩
      · simp only [Sem.run_bind, run_isAgg hT, hagg, Result.andThen_ok, if_true, run_sizeOf hT, hload]
        rfl
      · intro i v y hv hy
        have hil : i < r.size := by have := (List.getElem?_eq_some_iff.1 hv).1; omega
        rw [getElem?_drop_take _ _ _ _ hil] at hv hy
        exact hrow (j + i) y v hy (by rw [← Nat.add_assoc]; simpa using hv)
    · cases hx

/-- A value that may be a cell. -/
def cellLike : AV → Bool
  | .agg _ | .tup _ | .junk => false
  | _ => true

theorem M.oneCell {F : Still} {ρ : Places} {v : Value} {x : AV} (h : M F ρ v x) (hx : cellLike x = true) : v.oneCell' = true := by
  cases h with
  | v _ x h => cases v <;> simp_all [single, Value.oneCell']
  | _ => first | rfl | (simp [cellLike] at hx)

/-- The cells of a value. -/
def cellsOf : AV → List AV
  | .agg xs => xs
  | x => [x]

theorem M.cells {F : Still} {ρ : Places} {v : Value} {x : AV} (h : M F ρ v x) (hx : (cellsOf x).all cellLike = true) : v.cells.toList.length = (cellsOf x).length ∧ (∀ u, u ∈ v.cells.toList → u.oneCell' = true) ∧
    ∀ (i : Nat) u y, v.cells.toList[i]? = some u → (cellsOf x)[i]? = some y → M F ρ u y := by
  cases hxa : x with
  | agg xs =>
    subst hxa
    obtain ⟨vs, rfl, hl, hm⟩ := h.agg_inv
    refine ⟨by simpa [Value.cells, cellsOf] using hl, ?_, by simpa [Value.cells, cellsOf] using hm⟩
    intro u hu
    simp only [Value.cells] at hu
    obtain ⟨i, hi⟩ := List.mem_iff_getElem?.1 hu
    have hil : i < xs.length := by have := (List.getElem?_eq_some_iff.1 hi).1; omega
    have hy : xs[i]? = some xs[i] := List.getElem?_eq_getElem hil
    exact (hm i u _ hi hy).oneCell (List.all_eq_true.1 hx _ (List.mem_of_getElem? hy))
  | _ =>
    all_goals
      have he : cellsOf x = [x] := by rw [hxa]; rfl
      have hc : cellLike x = true := by rw [he] at hx; simpa using hx
      have h1 := h.oneCell hc
      have hvc : v.cells = #[v] := by cases v <;> simp_all [Value.cells, Value.oneCell']
      rw [← hxa, hvc, he]
      refine ⟨rfl, by simpa using h1, ?_⟩
      intro i u y hu hy
      cases i with
      | zero => simp at hu hy; subst hu; subst hy; exact h
      | succ i => simp at hu

/-- One write: the block of a name (or of the name that goes), or a new one. m: the name behind it · pl: its place · ks: a name of which nothing is told any more · tb: the block that may have been written. -/
theorem Hp.write {B : Base} {A : Nat → Prop} {h : Nat → HB} {F : Still} {ρ : Places} {w w' : World} (hp : Hp B A h F ρ w) (m : Nat) (pl : Option (Nat × Nat × Nat)) (X : HB) (ks tb : Option Nat)
    (hm : ρ m = none ∨ ρ m = some pl) (kept : B.kept w') (ht : ∀ b, tb = some b → ∃ n0 c, (n0 = m ∨ ks = some n0) ∧ (h n0).isOwn = true ∧ ρ n0 = some (some (b, c)))
    (hw : ∀ b, b < w.heap.size → tb ≠ some b → w'.heap[b]? = w.heap[b]?) (hpl : ∀ b c, pl = some (b, c) → tb = some b ∨ w.heap.size ≤ b)
    (own : OwnAt F (fun n => if n = m then some pl else ρ n) w' m X) :
    Hp B (fun n => A n ∨ n = m) (fun n => if n = m then X else if ks = some n then .dead else h n) F (fun n => if n = m then some pl else ρ n) w' := by
  have hle : ρ.le (fun n => if n = m then some pl else ρ n) := by
    intro n c hn
    by_cases hnm : n = m
    · subst hnm
      rcases hm with hm | hm
      · rw [hm] at hn; cases hn
      · rw [hm] at hn; simpa using hn
    · simpa [hnm] using hn
  have hFlt : ∀ b o, F b = some o → b < w.heap.size := fun b o hb => (Array.getElem?_eq_some_iff.1 (hp.agree b o hb)).1
  have hFt : ∀ b, tb = some b → F b = none := by
    intro b hb
    obtain ⟨n0, c, _, h2, h3⟩ := ht b hb
    exact (hp.new n0 b c h2 h3).1
  have hblk : ∀ n b c, (h n).isOwn = true → ρ n = some (some (b, c)) → b < w.heap.size := by
    intro n b c ho hn
    have := hp.own n
    cases hh : h n with
    | own ex k rows =>
      rw [hh] at this
      rcases this with ⟨h1, _⟩ | ⟨b', cap, cc, e, h1, h2, _⟩
      · rw [hn] at h1; cases h1
      · rw [hn] at h1; simp only [Option.some.injEq, Prod.mk.injEq] at h1
        rw [h1.1]; exact (Array.getElem?_eq_some_iff.1 h2).1
    | dead => rw [hh] at ho; cases ho
    | fz rows => rw [hh] at ho; cases ho
    | mp l =>
      rw [hh] at this
      obtain ⟨b', es, clock, h1, h2, _⟩ := this
      rw [hn] at h1; simp only [Option.some.injEq, Prod.mk.injEq] at h1
      rw [h1.1]; exact (Array.getElem?_eq_some_iff.1 h2).1
  have hother : ∀ n b c, n ≠ m → ks ≠ some n → (h n).isOwn = true → ρ n = some (some (b, c)) → tb ≠ some b := by
    intro n b c h1 h2 h3 h4 h5
    obtain ⟨n0, c', hn0, h6, h7⟩ := ht b h5
    have hne : n ≠ n0 := by
      rintro rfl
      rcases hn0 with hn0 | hn0
      · exact h1 hn0
      · exact h2 hn0
    exact hp.sep n n0 b c c' hne h3 h6 h4 h7
  refine ⟨kept, ?_, hp.grow, hp.fresh, ?_, ?_, ?_, ?_, ?_⟩
  · intro b o hb
    rw [hw b (hFlt b o hb) (fun e => by rw [hFt b e] at hb; cases hb)]
    exact hp.agree b o hb
  · exact fun n c hn => hle n c (hp.names n c hn)
  · intro n hn
    by_cases hnm : n = m
    · exact .inr hnm
    · simp only [hnm, if_false] at hn; exact .inl (hp.dom n hn)
  · intro n
    by_cases hnm : n = m
    · subst hnm; simpa using own
    · simp only [hnm, if_false]
      by_cases hk : ks = some n
      · simp [hk, OwnAt]
      · simp only [hk, if_false]
        have h1 := hp.own n
        cases hh : h n with
        | dead => trivial
        | fz rows =>
          rw [hh] at h1
          simpa [OwnAt, hnm] using h1
        | mp l =>
          rw [hh] at h1
          obtain ⟨b, es, clock, h1, h2, h3⟩ := h1
          refine ⟨b, es, clock, by simpa [hnm] using h1, ?_, h3.mono (Still.le_refl F) hle⟩
          rw [hw b (Array.getElem?_eq_some_iff.1 h2).1 (hother n b _ hnm hk (by rw [hh]; rfl) h1)]
          exact h2
        | own ex' k' rows' =>
          rw [hh] at h1
          rcases h1 with ⟨h1, h2⟩ | ⟨b, cap, c, e, h1, h2, h3, h4, h5, h6⟩
          · exact .inl ⟨by simpa [hnm] using h1, h2⟩
          · refine .inr ⟨b, cap, c, e, by simpa [hnm] using h1, ?_, h3, h4, h5, h6.mono (Still.le_refl F) hle⟩
            rw [hw b (Array.getElem?_eq_some_iff.1 h2).1 (hother n b _ hnm hk (by rw [hh]; rfl) h1)]
            exact h2
  · intro n b c ho hn
    by_cases hnm : n = m
    · subst hnm
      simp only [if_true, Option.some.injEq] at hn
      rcases hpl b c hn with h1 | h1
      · obtain ⟨n0, c', _, h6, h7⟩ := ht b h1
        exact hp.new n0 b c' h6 h7
      · refine ⟨?_, .inl (Nat.le_trans hp.kept.size h1)⟩
        cases hF : F b with
        | none => rfl
        | some o => have := hFlt b o hF; omega
    · simp only [hnm, if_false] at ho hn
      by_cases hk : ks = some n
      · simp [hk, HB.isOwn] at ho
      · simp only [hk, if_false] at ho
        exact hp.new n b c ho hn
  · have one : ∀ n b c c', n ≠ m → (if n = m then X else if ks = some n then .dead else h n).isOwn = true → pl = some (b, c) → ρ n = some (some (b, c')) → False := by
      intro n b c c' hnm ho hpb hn
      simp only [hnm, if_false] at ho
      by_cases hk : ks = some n
      · simp [hk, HB.isOwn] at ho
      · simp only [hk, if_false] at ho
        rcases hpl b c hpb with h1 | h1
        · exact hother n b c' hnm hk ho hn h1
        · have := hblk n b c' ho hn; omega
    intro n n' b c c' hne ho ho' hn hn'
    by_cases hnm : n = m
    · subst hnm
      simp only [if_true, Option.some.injEq] at hn
      have hnm' : n' ≠ n := Ne.symm hne
      simp only [hnm', if_false] at hn'
      exact one n' b c c' hnm' (by simpa [hnm'] using ho') hn hn'
    · by_cases hnm' : n' = m
      · subst hnm'
        simp only [if_true, Option.some.injEq] at hn'
        simp only [hnm, if_false] at hn
        exact one n b c' c hnm (by simpa [hnm] using ho) hn' hn
      · simp only [hnm, hnm', if_false] at ho ho' hn hn'
        by_cases hk : ks = some n
        · simp [hk, HB.isOwn] at ho
        · by_cases hk' : ks = some n'
          · simp [hk', HB.isOwn] at ho'
          · simp only [hk, hk', if_false] at ho ho'
            exact hp.sep n n' b c c' hne ho ho' hn hn'

/-- An operation with one write. -/
theorem ex_writeX {P : Program} {N : Nat} {o : Oper} {t : Nat → AV} {h : Nat → HB} {x : AV} (rt rh : List Nat) (m : Nat) (X : HB) (ks : List Nat) (fr : List Nat)
    (hN : ∀ d, o.dst = some d → d < N) (hfr : fr = [m] ∨ fr = []) (hks : ks.length ≤ 1)
    (hrun : ∀ B A h' F ρ (a : Act) (w : World), Hp B A h' F ρ w → (∀ j, j ∈ rt → M F ρ (a.tmps.getD j undef) (t j)) → (∀ n, n ∈ rh → h' n = h n) → (∀ n, n ∈ fr → ρ n = none) →
      ∃ v w' pl tb, (execOp a.eval o).run P w = .ok v w' ∧ (v = .skip ∧ o.dst = none ∨ ∃ u, v = .value u ∧ M F (fun n => if n = m then some pl else ρ n) u x) ∧
        (ρ m = none ∨ ρ m = some pl) ∧ B.kept w' ∧ (∀ b, tb = some b → ∃ n0 c, (n0 = m ∨ ks[0]? = some n0) ∧ (h' n0).isOwn = true ∧ ρ n0 = some (some (b, c))) ∧
        (∀ b, b < w.heap.size → tb ≠ some b → w'.heap[b]? = w.heap[b]?) ∧ (∀ b c, pl = some (b, c) → tb = some b ∨ w.heap.size ≤ b) ∧
        OwnAt F (fun n => if n = m then some pl else ρ n) w' m X ∧ (fr = [] → ρ m ≠ none)) :
    ExOk P N o t h ⟨rt, rh, o.dst, x, (m, X) :: ks.map fun n => (n, .dead), fr⟩ := by
  intro B A t' h' a w Q K hBN g hrt hrh hfrA hK
  obtain ⟨g1, g2, F, ρ, hp, g4⟩ := g
  have hnone : ∀ n, n ∈ fr → ρ n = none := fun n hn => by
    cases hρ : ρ n with
    | none => rfl
    | some c => exact absurd (hp.dom n (by rw [hρ]; simp)) (hfrA n hn)
  obtain ⟨v, w', pl, tb, hv, hres, c1, c2, c3, c4, c5, c6, c7⟩ := hrun B A h' F ρ a w hp (fun j hj => (hrt j hj) ▸ g4 j) (fun n hn => hrh n hn) hnone
  have hp' := hp.write m pl X ks[0]? tb c1 c2 c3 c4 c5 c6
  have hle : ρ.le (fun n => if n = m then some pl else ρ n) := by
    intro n c hn
    by_cases hnm : n = m
    · subst hnm
      rcases c1 with hm | hm
      · rw [hm] at hn; cases hn
      · rw [hm] at hn; simpa using hn
    · simpa [hnm] using hn
  have hH : (Eff.h ⟨rt, rh, o.dst, x, (m, X) :: ks.map fun n => (n, .dead), fr⟩ h') = fun n => if n = m then X else if ks[0]? = some n then .dead else h' n := by
    funext n
    unfold Eff.h Eff.wH
    simp only [findH]
    by_cases hnm : n = m
    · subst hnm; simp
    · simp only [show ¬ m = n from fun e => hnm e.symm, hnm, if_false]
      match ks, hks with
      | [], _ => simp [findH]
      | [q], _ =>
        simp only [List.map_cons, List.map_nil, findH, List.getElem?_cons_zero, Option.some.injEq]
        by_cases hq : q = n <;> simp [hq]
      | _ :: _ :: _, hl => simp at hl
  have hdom : ∀ n, (A n ∨ n = m) → A n ∨ n ∈ fr := by
    intro n hn
    rcases hn with hn | hn
    · exact .inl hn
    · rcases hfr with e | e
      · exact .inr (by rw [e, hn]; simp)
      · exact .inl (hn ▸ hp.dom m (c7 e))
  have hfin : ∀ a', a'.defers = [] → a'.tmps.size = B.N → (∀ i, M F (fun n => if n = m then some pl else ρ n) (a'.tmps.getD i undef) (Eff.t ⟨rt, rh, o.dst, x, (m, X) :: ks.map fun n => (n, .dead), fr⟩ t' i)) → K a' w' := by
    intro a' h1 h2 h3
    refine hK a' w' ⟨h1, h2, F, _, ?_, h3⟩
    rw [hH]
    exact hp'.weaken hdom
  unfold Oper.wp
  rw [hv]
  rcases hres with ⟨rfl, hd⟩ | ⟨u, rfl, hu⟩
  · rw [Oper.upon_skip]
    refine hfin _ (by simpa [hd, Act.put] using g1) (by rw [put_size]; exact g2) (fun i => ?_)
    simp only [hd, Act.put, Eff.t, Eff.wT, reduceCtorEq, if_false, Option.getD_none]
    exact (g4 i).mono (Still.le_refl F) hle
  · rw [Oper.upon_value]
    cases ho : o.dst with
    | none =>
      rw [ho] at hfin
      refine hfin _ (by simpa [Act.put] using g1) (by rw [put_size]; exact g2) (fun i => ?_)
      simp only [Act.put, Eff.t, Eff.wT, reduceCtorEq, if_false, Option.getD_none]
      exact (g4 i).mono (Still.le_refl F) hle
    | some d =>
      rw [ho] at hfin
      refine hfin _ (by simpa [Act.put] using g1) (by rw [put_size]; exact g2) (fun i => ?_)
      rw [put_getD _ _ _ _ (Nat.lt_of_lt_of_le (hN d ho) (by omega))]
      unfold Eff.t Eff.wT
      by_cases hi : d = i
      · subst hi; simpa using hu
      · simpa [hi] using (g4 i).mono (Still.le_refl F) hle

theorem ex_write {P : Program} {N : Nat} {o : Oper} {t : Nat → AV} {h : Nat → HB} {x : AV} (rt rh : List Nat) (m : Nat) (ex : Bool) (k : Nat) (rows : List (List AV)) (ks : List Nat) (fr : List Nat)
    (hN : ∀ d, o.dst = some d → d < N) (hfr : fr = [m] ∨ fr = []) (hks : ks.length ≤ 1)
    (hrun : ∀ B A h' F ρ (a : Act) (w : World), Hp B A h' F ρ w → (∀ j, j ∈ rt → M F ρ (a.tmps.getD j undef) (t j)) → (∀ n, n ∈ rh → h' n = h n) → (∀ n, n ∈ fr → ρ n = none) →
      ∃ v w' pl tb, (execOp a.eval o).run P w = .ok v w' ∧ (v = .skip ∧ o.dst = none ∨ ∃ u, v = .value u ∧ M F (fun n => if n = m then some pl else ρ n) u x) ∧
        (ρ m = none ∨ ρ m = some pl) ∧ B.kept w' ∧ (∀ b, tb = some b → ∃ n0 c, (n0 = m ∨ ks[0]? = some n0) ∧ (h' n0).isOwn = true ∧ ρ n0 = some (some (b, c))) ∧
        (∀ b, b < w.heap.size → tb ≠ some b → w'.heap[b]? = w.heap[b]?) ∧ (∀ b c, pl = some (b, c) → tb = some b ∨ w.heap.size ≤ b) ∧
        OwnAt F (fun n => if n = m then some pl else ρ n) w' m (.own ex k rows) ∧ (fr = [] → ρ m ≠ none)) :
    ExOk P N o t h ⟨rt, rh, o.dst, x, (m, .own ex k rows) :: ks.map fun n => (n, .dead), fr⟩ := ex_writeX rt rh m _ ks fr hN hfr hks hrun

end Go.Ab

/- The abstract layer, 6: loads, stores, new variables, fields, elements. -/
set_option linter.unusedSimpArgs false
namespace Go.Ab
open Go.RowKit

def look : List (Nat × TRec) → Nat → Option TRec
  | [], _ => none
  | (T, r) :: l, n => if T = n then some r else look l n

/-- A program with a table of its types. -/
structure Cx where
  P : Program
  tab : List (Nat × TRec)
  ok : ∀ T r, look tab T = some r → trec P T = some r
  mixed : P.follows .mixedOrders = true
  nh : Nat := 0

section
variable {F : Still} {ρ : Places} {v : Value}
theorem M.op_inv {n i j : Nat} (h : M F ρ v (.op n i j)) : ∃ b k cap, ρ n = some (some (b, k, cap)) ∧ v = .pointer (some ⟨b, i * k + j, none⟩) := by
  cases h with | op _ n b k cap i j hn => exact ⟨b, k, cap, hn, rfl⟩
theorem M.os_inv {n off len : Nat} (h : M F ρ v (.os n off len)) : (ρ n = some none ∧ off = 0 ∧ len = 0 ∧ ∃ a, v = .slice a 0 0) ∨
    ∃ b k cap a, ρ n = some (some (b, k, cap)) ∧ v = .slice (some a) len (cap - off) ∧ off + len ≤ cap ∧ (off < cap → a = ⟨b, off * k, none⟩) := by
  cases h with
  | os _ n b k cap off len a hn hl ha => exact .inr ⟨b, k, cap, a, hn, rfl, hl, ha⟩
  | osn _ n a hn => exact .inl ⟨hn, rfl, rfl, a, rfl⟩
theorem M.fp_inv {rows : List (List AV)} {i j : Nat} (h : M F ρ v (.fp rows i j)) : ∃ b off c e fr k, F b = some (.cells c e fr) ∧ i < rows.length ∧ off + rows.length * k ≤ c.size ∧ (∀ row, row ∈ rows → row.length = k) ∧
    (∀ (i j : Nat) row x v, rows[i]? = some row → row[j]? = some x → c[off + i * k + j]? = some v → M F noPlaces v x) ∧ v = .pointer (some ⟨b, off + i * k + j, none⟩) := by
  cases h with | fp _ b off c e fr k rows i j hb hi hs hk h => exact ⟨b, off, c, e, fr, k, hb, hi, hs, hk, h, rfl⟩
theorem M.sl_inv {ex : Bool} {rows : List (List AV)} (h : M F ρ v (.sl ex rows)) : (rows = [] ∧ ∃ a cap, v = .slice a 0 cap ∧ (ex = true → cap = 0) ∧ (a = none → cap = 0)) ∨
    ∃ b off cap c e fr k, F b = some (.cells c e fr) ∧ rows.length ≤ cap ∧ (ex = true → cap = rows.length) ∧ off + rows.length * k ≤ c.size ∧ (∀ row, row ∈ rows → row.length = k) ∧
    (∀ (i j : Nat) row x v, rows[i]? = some row → row[j]? = some x → c[off + i * k + j]? = some v → M F noPlaces v x) ∧ v = .slice (some ⟨b, off, none⟩) rows.length cap := by
  cases h with
  | sl0 _ a cap ex he hn => exact .inl ⟨rfl, a, cap, rfl, he, hn⟩
  | sl _ b off cap c e fr ex k rows hb hc he hs hk h => exact .inr ⟨b, off, cap, c, e, fr, k, hb, hc, he, hs, hk, h, rfl⟩

theorem own_block {w : World} {n b k' cap' : Nat} {ex : Bool} {k : Nat} {rows : List (List AV)} (h : OwnAt F ρ w n (.own ex k rows)) (hn : ρ n = some (some (b, k', cap'))) :
    k' = k ∧ ∃ c e, w.heap[b]? = some (.cells c e (0, 0)) ∧ c.size = cap' * k ∧ rows.length ≤ cap' ∧ (ex = true → cap' = rows.length) ∧ RowsAt F ρ c k rows := by
  rcases h with ⟨h1, _⟩ | ⟨b', cap, c, e, h1, h2, h3, h4, h5, h6⟩
  · rw [hn] at h1; cases h1
  · rw [hn] at h1
    simp only [Option.some.injEq, Prod.mk.injEq] at h1
    obtain ⟨rfl, rfl, rfl⟩ := h1
    exact ⟨rfl, c, e, h2, h3, h4, h5, h6⟩

theorem mul_row {i k cap len : Nat} (hi : i < len) (hl : len ≤ cap) : i * k + k ≤ cap * k := by
  have : (i + 1) * k ≤ cap * k := Nat.mul_le_mul_right k (by omega)
  rw [Nat.add_mul, Nat.one_mul] at this
  exact this
end

section ops
variable {C : Cx} {N d : Nat} {ty : TypeId} {pos : String} {af : Array Edge} {gd : Option (Nat × Bool)} {t : Nat → AV} {h : Nat → HB}

/-- A load out of our own memory. -/
theorem ex_load_own (T : TypeId) (x : Operand) (n i j : Nat) (ex : Bool) (k : Nat) (rows : List (List AV)) (r : TRec) (row : List AV) (y : AV) (hx : evA t x = .op n i j) (hn : h n = .own ex k rows) (hT : look C.tab T = some r)
    (hr : rows[i]? = some row) (hy : cut r row j = some y) (hN : d < N) : ExOk C.P N ⟨some d, .load T x, ty, pos, af, gd⟩ t h ⟨opT x, [n], some d, y, [], []⟩ :=
  ex_pure _ _ rfl hN fun F ρ a w hag hs hh => by
    have h1 := evA_sound (x := x) hs (fun j hj => hj)
    rw [hx] at h1
    obtain ⟨b, k', cap, hρ, hv⟩ := h1.op_inv
    have h2 := hh n (by simp)
    rw [hn] at h2
    obtain ⟨rfl, c, e, hb, hsz, hle, _, hR⟩ := own_block h2 hρ
    have hi : i < rows.length := (List.getElem?_eq_some_iff.1 hr).1
    have hk : row.length = k' := hR.1 row (List.mem_of_getElem? hr)
    obtain ⟨v, hrun, hm⟩ := run_load (F := F) (ρ := ρ) hb (C.ok T r hT) (base := i * k') (j := j) (row := row) (x := y) (by rw [hk, hsz]; exact mul_row hi hle) (fun j x v hj hc => hR.2 i j row x v hr hj hc) hy
    refine ⟨v, ?_, hm⟩
    simp only [execOp, hv, Instr.loadAt, Instr.sureAddr, Sem.run_bind, Sem.run_pure, Result.andThen_ok, hrun]

/-- A load through an address within rows that nobody writes to. -/
theorem ex_load_fp (T : TypeId) (x : Operand) (rows : List (List AV)) (i j : Nat) (r : TRec) (row : List AV) (y : AV) (hx : evA t x = .fp rows i j) (hT : look C.tab T = some r)
    (hr : rows[i]? = some row) (hy : cut r row j = some y) (hN : d < N) : ExOk C.P N ⟨some d, .load T x, ty, pos, af, gd⟩ t h ⟨opT x, [], some d, y, [], []⟩ :=
  ex_pure _ _ rfl hN fun F ρ a w hag hs hh => by
    have h1 := evA_sound (x := x) hs (fun j hj => hj)
    rw [hx] at h1
    obtain ⟨b, off, c, e, fr, k, hb, hi, hsz, hk, hR, hv⟩ := h1.fp_inv
    have hkr : row.length = k := hk row (List.mem_of_getElem? hr)
    obtain ⟨v, hrun, hm⟩ := run_load (F := F) (ρ := ρ) (hag _ _ hb) (C.ok T r hT) (base := off + i * k) (j := j) (row := row) (x := y)
      (by rw [hkr]; have := mul_row (k := k) hi (Nat.le_refl _); omega) (fun j x v hj hc => (hR i j row x v hr hj hc).mono (Still.le_refl F) (noPlaces_le ρ)) hy
    refine ⟨v, ?_, hm⟩
    simp only [execOp, hv, Instr.loadAt, Instr.sureAddr, Sem.run_bind, Sem.run_pure, Result.andThen_ok, hrun]

/-- A load out of our own memory that is written no more. -/
theorem ex_load_fz (T : TypeId) (x : Operand) (n i j : Nat) (rows : List (List AV)) (r : TRec) (row : List AV) (y : AV) (hx : evA t x = .op n i j) (hn : h n = .fz rows) (hT : look C.tab T = some r)
    (hr : rows[i]? = some row) (hy : cut r row j = some y) (hN : d < N) : ExOk C.P N ⟨some d, .load T x, ty, pos, af, gd⟩ t h ⟨opT x, [n], some d, y, [], []⟩ :=
  ex_pure _ _ rfl hN fun F ρ a w hag hs hh => by
    have h1 := evA_sound (x := x) hs (fun j hj => hj)
    rw [hx] at h1
    obtain ⟨b, k', cap, hρ, hv⟩ := h1.op_inv
    have h2 := hh n (by simp)
    rw [hn] at h2
    have hi : i < rows.length := (List.getElem?_eq_some_iff.1 hr).1
    rcases h2 with ⟨_, h3⟩ | ⟨b', k, cap', c, e, fr, h3, hb, hsz, hle, hR⟩
    · rw [h3] at hi; simp at hi
    · rw [hρ] at h3
      simp only [Option.some.injEq, Prod.mk.injEq] at h3
      obtain ⟨rfl, rfl, rfl⟩ := h3
      have hk : row.length = k' := hR.1 row (List.mem_of_getElem? hr)
      obtain ⟨v, hrun, hm⟩ := run_load (F := F) (ρ := ρ) (hag _ _ hb) (C.ok T r hT) (base := i * k') (j := j) (row := row) (x := y) (by rw [hk]; exact Nat.le_trans (mul_row hi (Nat.le_refl _)) hsz)
        (fun j x v hj hc => (hR.2 i j row x v hr hj hc).mono (Still.le_refl F) (fun n c h => by cases h)) hy
      refine ⟨v, ?_, hm⟩
      simp only [execOp, hv, Instr.loadAt, Instr.sureAddr, Sem.run_bind, Sem.run_pure, Result.andThen_ok, hrun]

/-- Cells written over a row. -/
def putRow (row : List AV) (j : Nat) (xs : List AV) : List AV := row.take j ++ xs ++ row.drop (j + xs.length)

theorem putRow_length {row xs : List AV} {j : Nat} (h : j + xs.length ≤ row.length) : (putRow row j xs).length = row.length := by
  simp [putRow]; omega

theorem cut_row {r : TRec} {row : List AV} (ha : r.agg = true) (hl : row.length = r.size) : cut r row 0 = some (.agg row) := by
  unfold cut
  rw [if_pos ha, if_pos (by omega), List.drop_zero, ← hl, List.take_length]
/-- A whole row loaded. -/
theorem ex_load_own_row (T : TypeId) (x : Operand) (n i : Nat) (ex : Bool) (k : Nat) (rows : List (List AV)) (r : TRec) (row : List AV) (hx : evA t x = .op n i 0) (hn : h n = .own ex k rows) (hT : look C.tab T = some r)
    (hr : rows[i]? = some row) (ha : r.agg = true) (hl : row.length = r.size) (hN : d < N) : ExOk C.P N ⟨some d, .load T x, ty, pos, af, gd⟩ t h ⟨opT x, [n], some d, .agg row, [], []⟩ := ex_load_own T x n i 0 ex k rows r row _ hx hn hT hr (cut_row ha hl) hN
theorem ex_load_fp_row (T : TypeId) (x : Operand) (rows : List (List AV)) (i : Nat) (r : TRec) (row : List AV) (hx : evA t x = .fp rows i 0) (hT : look C.tab T = some r)
    (hr : rows[i]? = some row) (ha : r.agg = true) (hl : row.length = r.size) (hN : d < N) : ExOk C.P N ⟨some d, .load T x, ty, pos, af, gd⟩ t h ⟨opT x, [], some d, .agg row, [], []⟩ := ex_load_fp T x rows i 0 r row _ hx hT hr (cut_row ha hl) hN
theorem ex_load_fz_row (T : TypeId) (x : Operand) (n i : Nat) (rows : List (List AV)) (r : TRec) (row : List AV) (hx : evA t x = .op n i 0) (hn : h n = .fz rows) (hT : look C.tab T = some r)
    (hr : rows[i]? = some row) (ha : r.agg = true) (hl : row.length = r.size) (hN : d < N) : ExOk C.P N ⟨some d, .load T x, ty, pos, af, gd⟩ t h ⟨opT x, [n], some d, .agg row, [], []⟩ := ex_load_fz T x n i 0 rows r row _ hx hn hT hr (cut_row ha hl) hN

theorem ex_store (T : TypeId) (p x : Operand) (n i j : Nat) (ex : Bool) (k : Nat) (rows : List (List AV)) (r : TRec) (row : List AV) (hp : evA t p = .op n i j) (hn : h n = .own ex k rows) (hT : look C.tab T = some r)
    (hr : rows[i]? = some row) (hc : (cellsOf (evA t x)).all cellLike = true) (hs : (cellsOf (evA t x)).length = r.size) (hj : j + (cellsOf (evA t x)).length ≤ row.length) :
    ExOk C.P N ⟨none, .store T p x, ty, pos, af, gd⟩ t h ⟨opT p ++ opT x, [n], none, .junk, [(n, .own ex k (rows.set i (putRow row j (cellsOf (evA t x)))))], []⟩ :=
  ex_write _ _ n ex k _ [] [] (fun d hd => by cases hd) (.inr rfl) (by simp) fun B A h' F ρ a w hpp hm hh _ => by
    have h1 := evA_sound (x := p) hm (fun j hj => List.mem_append_left _ hj)
    have h2 := evA_sound (x := x) hm (fun j hj => List.mem_append_right _ hj)
    rw [hp] at h1
    obtain ⟨b, k', cap, hρ, hv⟩ := h1.op_inv
    have hn' : h' n = .own ex k rows := (hh n (by simp)).trans hn
    have h3 := hpp.own n
    rw [hn'] at h3
    obtain ⟨rfl, c, e, hb, hsz, hle, hex, hR⟩ := own_block h3 hρ
    have hi : i < rows.length := (List.getElem?_eq_some_iff.1 hr).1
    have hk : row.length = k' := hR.1 row (List.mem_of_getElem? hr)
    obtain ⟨c1, c2, c3⟩ := h2.cells hc
    have hrow := mul_row (k := k') hi hle
    obtain ⟨dd, inf, z, _, hinf, _, _, _, hsize, _⟩ := trec_spec (C.ok T r hT)
    have hst := run_storeCells_at C.P b (i * k' + j) e (a.eval x).cells.toList 0 c w hb (by rw [hsz, c1]; omega) c2
    simp only [Nat.add_zero] at hst
    let c' : Array Value := (c.toList.take (i * k' + j) ++ (a.eval x).cells.toList ++ c.toList.drop (i * k' + j + (a.eval x).cells.toList.length)).toArray
    have hc'size : c'.size = c.size := by simp only [c', List.size_toArray, List.length_append, List.length_take, List.length_drop, Array.length_toList]; simp only [Array.length_toList] at c1; omega
    have hpl : (fun m => if m = n then some (some (b, k', cap)) else ρ m) = ρ := by
      funext m; by_cases hmn : m = n
      · subst hmn; simp [hρ]
      · simp [hmn]
    refine ⟨.skip, w.setRow b c', some (b, k', cap), some b, ?_, .inl ⟨rfl, rfl⟩, .inr hρ, ?_, ?_, ?_, ?_, ?_, fun _ => by rw [hρ]; simp⟩
    · have hsv : (storeVar T ⟨b, i * k' + j, none⟩ (a.eval x)).run C.P w = .ok () (w.setRow b c') := by
        unfold storeVar
        have hcs : (a.eval x).cells.size = r.size := by rw [← Array.length_toList, c1, hs]
        simp only [Sem.run_bind, run_sizeOf (C.ok T r hT), Result.andThen_ok, hcs, ne_eq, not_true_eq_false, if_false, Sem.run_pure]
        exact hst
      simp only [execOp, hv, Instr.storeAt, Instr.sureAddr, Sem.run_bind, Sem.run_pure, Result.andThen_ok, hsv]
    · have hnew := (hpp.new n b _ (by rw [hn']; rfl) hρ).2
      refine ⟨hpp.kept.os, hpp.kept.tape, hpp.kept.output, by simpa [World.setRow] using hpp.kept.size, fun b' hb' ho => ?_⟩
      rw [setRow_other _ _ _ _ (by rintro rfl; rcases hnew with hnew | hnew; · omega
                                   · exact ho hnew)]
      exact hpp.kept.block b' hb' ho
    · intro b' hb'
      simp only [Option.some.injEq] at hb'
      subst hb'
      exact ⟨n, _, .inl rfl, by rw [hn']; rfl, hρ⟩
    · intro b' _ hb'
      exact setRow_other _ _ _ _ (fun e => hb' (by rw [e]))
    · intro b' c'' he
      simp only [Option.some.injEq, Prod.mk.injEq] at he
      exact .inl (by rw [he.1])
    · rw [hpl]
      refine .inr ⟨b, cap, c', e, hρ, setRow_heap _ _ _ _ _ _ hb, by rw [hc'size]; exact hsz, by simpa using hle, by simpa using hex, ?_, ?_⟩
      · intro row' hrow'
        rcases List.mem_or_eq_of_mem_set hrow' with h4 | h4
        · exact hR.1 row' h4
        · rw [h4, putRow_length hj, hk]
      · intro i' j' row' y v' hi' hj' hv'
        have hj'k : j' < k' := by
          have := (List.getElem?_eq_some_iff.1 hj').1
          have hl : row'.length = k' := by
            rcases List.mem_or_eq_of_mem_set (List.mem_of_getElem? hi') with h4 | h4
            · exact hR.1 row' h4
            · rw [h4, putRow_length hj, hk]
          omega
        have hget : c'[i' * k' + j']? = if i' * k' + j' < i * k' + j then c[i' * k' + j']? else if i' * k' + j' < i * k' + j + (cellsOf (evA t x)).length then (a.eval x).cells.toList[i' * k' + j' - (i * k' + j)]? else c[i' * k' + j']? := by
          simp only [c', List.getElem?_toArray, List.getElem?_append, List.length_append, List.length_take, Array.length_toList]
          simp only [Array.length_toList] at c1
          rw [c1, Nat.min_eq_left (by omega)]
          by_cases h5 : i' * k' + j' < i * k' + j
          · rw [if_pos (by omega), if_pos h5, if_pos h5, List.getElem?_take, if_pos h5]; simp
          · by_cases h6 : i' * k' + j' < i * k' + j + (cellsOf (evA t x)).length
            · rw [if_pos h6, if_neg h5, if_neg h5, if_pos h6]
            · rw [if_neg h6, if_neg h5, if_neg h6, List.getElem?_drop, show i * k' + j + (cellsOf (evA t x)).length + (i' * k' + j' - (i * k' + j + (cellsOf (evA t x)).length)) = i' * k' + j' from by omega]
              simp
        rw [hget] at hv'
        by_cases hii : i' = i
        · subst hii
          rw [List.getElem?_set_self hi] at hi'
          simp only [Option.some.injEq] at hi'
          subst hi'
          unfold putRow at hj'
          rw [List.getElem?_append, List.getElem?_append] at hj'
          simp only [List.length_append, List.length_take] at hj'
          rw [Nat.min_eq_left (by omega)] at hj'
          by_cases h5 : j' < j
          · rw [if_pos (by omega)] at hv'
            rw [if_pos (by omega), if_pos h5, List.getElem?_take, if_pos h5] at hj'
            exact hR.2 i' j' row y v' hr hj' hv'
          · rw [if_neg (by omega)] at hv'
            by_cases h6 : j' < j + (cellsOf (evA t x)).length
            · rw [if_pos (by omega), show i' * k' + j' - (i' * k' + j) = j' - j from by omega] at hv'
              rw [if_pos h6, if_neg h5] at hj'
              exact c3 _ _ _ hv' hj'
            · rw [if_neg (by omega)] at hv'
              rw [if_neg h6, List.getElem?_drop, show j + (cellsOf (evA t x)).length + (j' - (j + (cellsOf (evA t x)).length)) = j' from by omega] at hj'
              exact hR.2 i' j' row y v' hr hj' hv'
        · rw [List.getElem?_set_ne (Ne.symm hii)] at hi'
          have hlt : i' * k' + j' < i * k' + j ∨ i * k' + j + (cellsOf (evA t x)).length ≤ i' * k' + j' := by
            rcases Nat.lt_or_ge i' i with h5 | h5
            · left; have := mul_row (k := k') h5 (Nat.le_refl _); omega
            · right; have := mul_row (k := k') (show i < i' by omega) (Nat.le_refl _); omega
          have hv'' : c[i' * k' + j']? = some v' := by
            rcases hlt with h5 | h5
            · rw [if_pos h5] at hv'; exact hv'
            · rw [if_neg (by omega), if_neg (by omega)] at hv'; exact hv'
          exact hR.2 i' j' row' y v' hi' hj' hv''
end ops
end Go.Ab

/- The abstract layer, 7: new variables, fields, elements, lengths, cuts. -/
set_option linter.unusedSimpArgs false
set_option linter.unusedVariables false
namespace Go.Ab
open Go.RowKit

section ops
variable {C : Cx} {N d : Nat} {ty : TypeId} {pos : String} {af : Array Edge} {gd : Option (Nat × Bool)} {t : Nat → AV} {h : Nat → HB}

/-- An operation that makes one block. -/
theorem ex_new {P : Program} {o : Oper} {x : AV} (rt rh : List Nat) (m : Nat) (ex : Bool) (k cap : Nat) (rows : List (List AV)) (hd : o.dst = some d) (hN : d < N) (hcap : rows.length ≤ cap) (hex : ex = true → cap = rows.length)
    (hrun : ∀ F ρ (a : Act) (w : World), (∀ j, j ∈ rt → M F ρ (a.tmps.getD j undef) (t j)) → ∃ u c e, (execOp a.eval o).run P w = .ok (.value u) (w.alloc (.cells c e)) ∧ c.size = cap * k ∧ RowsAt F ρ c k rows ∧
      (∀ ρ' : Places, ρ' m = some (some (w.heap.size, k, cap)) → ρ.le ρ' → M F ρ' u x)) :
    ExOk P N o t h ⟨rt, rh, some d, x, [(m, .own ex k rows)], [m]⟩ := by
  have := ex_write (P := P) (N := N) (o := o) (t := t) (h := h) (x := x) rt rh m ex k rows [] [m] (fun d' hd' => by rw [hd] at hd'; injection hd' with e; exact e ▸ hN) (.inl rfl) (by simp) ?_
  · rw [hd] at this; exact this
  · intro B A h' F ρ a w hp hm _ hfr
    obtain ⟨u, c, e, hr, hs, hR, hM⟩ := hrun F ρ a w hm
    have hρ : ρ m = none := hfr m (by simp)
    have hle : ρ.le (fun n => if n = m then some (some (w.heap.size, k, cap)) else ρ n) := by
      intro n c hn
      by_cases hnm : n = m
      · subst hnm; rw [hρ] at hn; cases hn
      · simpa [hnm] using hn
    refine ⟨.value u, _, some (w.heap.size, k, cap), none, hr, .inr ⟨u, rfl, hM _ (by simp) hle⟩, .inl hρ, hp.kept.alloc _, (fun b hb => by cases hb), fun b hb _ => Below.heap_alloc _ _ _ hb, ?_, ?_, (fun h => by cases h)⟩
    · intro b c' he
      simp only [Option.some.injEq, Prod.mk.injEq] at he
      exact .inr (by omega)
    · exact .inr ⟨w.heap.size, cap, c, e, by simp, heap_alloc_new w _, hs, hcap, hex, hR.mono (Still.le_refl F) hle⟩

theorem RowsAt.one {F : Still} {ρ : Places} {c : Array Value} {row : List AV} (hs : c.size = row.length) (hR : ∀ (j : Nat) x v, row[j]? = some x → c[j]? = some v → M F ρ v x) : RowsAt F ρ c row.length [row] := by
  refine ⟨fun r hr => by simp at hr; rw [hr], fun i j r x v hi hj hv => ?_⟩
  cases i with
  | zero => simp at hi; subst hi; exact hR j x v hj (by simpa using hv)
  | succ i => simp at hi

theorem ex_box (T : TypeId) (x : Operand) (m : Nat) (hc : (cellsOf (evA t x)).all cellLike = true) (hN : d < N) :
    ExOk C.P N ⟨some d, .box T x, ty, pos, af, gd⟩ t h ⟨opT x, [], some d, .op m 0 0, [(m, .own true (cellsOf (evA t x)).length [cellsOf (evA t x)])], [m]⟩ :=
  ex_new _ _ m true _ 1 _ rfl hN (by simp) (by simp) fun F ρ a w hm => by
    have h1 := evA_sound (x := x) hm (fun j hj => hj)
    obtain ⟨c1, _, c3⟩ := h1.cells hc
    refine ⟨.pointer (some ⟨w.heap.size, 0, none⟩), (a.eval x).cells, T, ?_, ?_, RowsAt.one (by simpa using c1) (fun j y v hj hv => c3 j v y (by simpa using hv) hj), fun ρ' hρ' _ => ?_⟩
    · simp [execOp, Instr.box, newVar, newRow, newObj, Sem.run, Result.andThen]
    · simpa using c1
    · exact (by simpa using M.op (F := F) _ m _ _ _ 0 0 hρ')

theorem ofV_cellLike {x : Value} (hx : single x = true) : cellLike (ofV x) = true := by
  unfold ofV
  split <;> simp_all [cellLike, single]

theorem ex_alloc (T : TypeId) (m : Nat) (r : TRec) (hT : look C.tab T = some r) (hN : d < N) :
    ExOk C.P N ⟨some d, .alloc T, ty, pos, af, gd⟩ t h ⟨[], [], some d, .op m 0 0, [(m, .own true (r.zero.map ofV).length [r.zero.map ofV])], [m]⟩ :=
  ex_new _ _ m true _ 1 _ rfl hN (by simp) (by simp) fun F ρ a w hm => by
    obtain ⟨z, hz, hzc⟩ := run_zeroOf (C.ok T r hT) w
    refine ⟨.pointer (some ⟨w.heap.size, 0, none⟩), z.cells, T, ?_, by rw [hzc]; simp, RowsAt.one (by rw [hzc]; simp) (fun j y v hj hv => ?_), fun ρ' hρ' _ => ?_⟩
    · simp [execOp, Instr.alloc, hz, newVar, newRow, newObj, Sem.run, Result.andThen]
    · rw [hzc] at hv
      rw [List.getElem?_map] at hj
      simp only [List.getElem?_toArray] at hv
      rw [hv] at hj
      simp only [Option.map_some, Option.some.injEq] at hj
      exact hj ▸ ofV_sound F ρ v
    · exact (by simpa using M.op (F := F) _ m _ _ _ 0 0 hρ')

/-- The place of a field: its offset, its type. -/
def fieldOf (r : TRec) (f : Nat) : Option (Nat × Nat) :=
  match r.kind with
  | .struct fs => fs[f]?
  | _ => none

theorem fieldOf_spec {P : Program} {T : Nat} {r : TRec} (hT : trec P T = some r) {f off ty : Nat} (hf : fieldOf r f = some (off, ty)) : ∃ (fs : Array Field) (fd : Field), P.underlying T = some (.struct fs) ∧ fs[f]? = some fd ∧ fd.offset = off ∧ fd.type = ty := by
  obtain ⟨dd, i, z, hd, _, _, hk, _⟩ := trec_spec hT
  unfold fieldOf at hf
  rw [hk] at hf
  cases dd with
  | struct fs =>
    simp only [kindOf, List.getElem?_map, Option.map_eq_some_iff, Prod.mk.injEq] at hf
    obtain ⟨fd, h1, h2, h3⟩ := hf
    exact ⟨fs, fd, hd, by simpa using h1, h2, h3⟩
  | _ => simp [kindOf] at hf

theorem ex_fieldAddr_own (T : TypeId) (x : Operand) (f n i j off fty : Nat) (r rf : TRec) (hx : evA t x = .op n i j) (hT : look C.tab T = some r) (hf : fieldOf r f = some (off, fty)) (hF : look C.tab fty = some rf) (h0 : rf.size ≠ 0) (hN : d < N) :
    ExOk C.P N ⟨some d, .fieldAddr T x f, ty, pos, af, gd⟩ t h ⟨opT x, [], some d, .op n i (j + off), [], []⟩ :=
  ex_pure _ _ rfl hN fun F ρ a w _ hs _ => by
    have h1 := evA_sound (x := x) hs (fun j hj => hj)
    rw [hx] at h1
    obtain ⟨b, k, cap, hρ, hv⟩ := h1.op_inv
    obtain ⟨fs, fd, hu, hfd, rfl, rfl⟩ := fieldOf_spec (C.ok T r hT) hf
    have hadd : (⟨b, i * k + j, none⟩ : Addr).add fd.offset = ⟨b, i * k + (j + fd.offset), none⟩ := by unfold Addr.add; split <;> simp_all; omega
    refine ⟨.pointer (some ⟨b, i * k + (j + fd.offset), none⟩), ?_, .op _ n b k cap i _ hρ⟩
    simp only [execOp, hv, Instr.fieldAt, Sem.run_bind, run_underlying hu, Result.andThen_ok, hfd, Instr.sureAddr, Sem.run_pure, fieldPlace, run_sizeOf (C.ok _ rf hF), h0, if_false, hadd, Sem.run_ite]

theorem ex_fieldAddr_fp (T : TypeId) (x : Operand) (f : Nat) (rows : List (List AV)) (i j off fty : Nat) (r rf : TRec) (hx : evA t x = .fp rows i j) (hT : look C.tab T = some r) (hf : fieldOf r f = some (off, fty)) (hF : look C.tab fty = some rf) (h0 : rf.size ≠ 0) (hN : d < N) :
    ExOk C.P N ⟨some d, .fieldAddr T x f, ty, pos, af, gd⟩ t h ⟨opT x, [], some d, .fp rows i (j + off), [], []⟩ :=
  ex_pure _ _ rfl hN fun F ρ a w _ hs _ => by
    have h1 := evA_sound (x := x) hs (fun j hj => hj)
    rw [hx] at h1
    obtain ⟨b, o, c, e, fr, k, hb, hi, hsz, hk, hR, hv⟩ := h1.fp_inv
    obtain ⟨fs, fd, hu, hfd, rfl, rfl⟩ := fieldOf_spec (C.ok T r hT) hf
    have hadd : (⟨b, o + i * k + j, none⟩ : Addr).add fd.offset = ⟨b, o + i * k + (j + fd.offset), none⟩ := by unfold Addr.add; split <;> simp_all; omega
    refine ⟨.pointer (some ⟨b, o + i * k + (j + fd.offset), none⟩), ?_, .fp _ b o c e fr k rows i _ hb hi hsz hk hR⟩
    simp only [execOp, hv, Instr.fieldAt, Sem.run_bind, run_underlying hu, Result.andThen_ok, hfd, Instr.sureAddr, Sem.run_pure, fieldPlace, run_sizeOf (C.ok _ rf hF), h0, if_false, hadd, Sem.run_ite]

/-- A part of a struct by value. -/
theorem ex_field (T : TypeId) (x : Operand) (f off fty : Nat) (cs : List AV) (r rf : TRec) (y : AV) (hx : evA t x = .agg cs) (hT : look C.tab T = some r) (hf : fieldOf r f = some (off, fty)) (hF : look C.tab fty = some rf) (hy : cut rf cs off = some y) (hN : d < N) :
    ExOk C.P N ⟨some d, .field T x f, ty, pos, af, gd⟩ t h ⟨opT x, [], some d, y, [], []⟩ :=
  ex_pure _ _ rfl hN fun F ρ a w _ hs _ => by
    have h1 := evA_sound (x := x) hs (fun j hj => hj)
    rw [hx] at h1
    obtain ⟨vs, hv, hl, hm⟩ := h1.agg_inv
    obtain ⟨fs, fd, hu, hfd, rfl, rfl⟩ := fieldOf_spec (C.ok T r hT) hf
    unfold cut at hy
    cases hagg : rf.agg with
    | false =>
      simp only [hagg, Bool.false_eq_true, if_false] at hy
      have hi : fd.offset < vs.length := by have := (List.getElem?_eq_some_iff.1 hy).1; omega
      have hvi : vs[fd.offset]? = some vs[fd.offset] := List.getElem?_eq_getElem hi
      refine ⟨vs[fd.offset], ?_, hm _ _ _ hvi hy⟩
      simp only [execOp, hv, Instr.field, Sem.run_bind, run_underlying hu, Result.andThen_ok, hfd, asAgg, Sem.run_pure, part, run_isAgg (C.ok _ rf hF), hagg, Bool.false_eq_true, if_false, List.getElem?_toArray, hvi, Sem.run_ite]
    | true =>
      simp only [hagg, if_true] at hy
      split at hy
      · rename_i hle
        simp only [Option.some.injEq] at hy
        subst hy
        refine ⟨.agg ((vs.drop fd.offset).take rf.size).toArray, ?_, .agg _ _ _ (by simp; omega) ?_⟩
        · simp only [execOp, hv, Instr.field, Sem.run_bind, run_underlying hu, Result.andThen_ok, hfd, asAgg, Sem.run_pure, part, run_isAgg (C.ok _ rf hF), hagg, if_true, run_sizeOf (C.ok _ rf hF), Sem.run_ite]
          have : vs.toArray.extract fd.offset (fd.offset + rf.size) = ((vs.drop fd.offset).take rf.size).toArray := by
            rw [List.extract_toArray, List.extract_eq_take_drop, show fd.offset + rf.size - fd.offset = rf.size from by omega]
          rw [this]
        · intro i v y hv' hy'
          have hil : i < rf.size := by have := (List.getElem?_eq_some_iff.1 hv').1; simp at this; omega
          rw [getElem?_drop_take _ _ _ _ hil] at hv' hy'
          exact hm _ _ _ hv' hy'
      · cases hy

theorem ex_nilCheck_op (x : Operand) (n i j : Nat) (hx : evA t x = .op n i j) (hN : d < N) : ExOk C.P N ⟨some d, .nilCheck x, ty, pos, af, gd⟩ t h ⟨opT x, [], some d, .op n i j, [], []⟩ :=
  ex_pure _ _ rfl hN fun F ρ a w _ hs _ => by
    have h1 := evA_sound (x := x) hs (fun j hj => hj)
    rw [hx] at h1
    have h2 := h1
    obtain ⟨b, k, cap, hρ, hv⟩ := h1.op_inv
    exact ⟨a.eval x, by simp only [execOp, hv, Sem.run_pure], h2⟩
theorem ex_nilCheck_fp (x : Operand) (rows : List (List AV)) (i j : Nat) (hx : evA t x = .fp rows i j) (hN : d < N) : ExOk C.P N ⟨some d, .nilCheck x, ty, pos, af, gd⟩ t h ⟨opT x, [], some d, .fp rows i j, [], []⟩ :=
  ex_pure _ _ rfl hN fun F ρ a w _ hs _ => by
    have h1 := evA_sound (x := x) hs (fun j hj => hj)
    rw [hx] at h1
    have h2 := h1
    obtain ⟨b, o, c, e, fr, k, hb, hi, hsz, hk, hR, hv⟩ := h1.fp_inv
    exact ⟨a.eval x, by simp only [execOp, hv, Sem.run_pure], h2⟩

theorem slice_spec {P : Program} {T : Nat} {r : TRec} (hT : trec P T = some r) {e : Nat} (he : r.kind = .slice e) : P.underlying T = some (.slice e) := by
  obtain ⟨dd, i, z, hd, _, _, hk, _⟩ := trec_spec hT
  rw [he] at hk
  cases dd <;> first | (simp only [kindOf, TK.slice.injEq] at hk; subst hk; exact hd) | exact hd | (simp [kindOf] at hk)

/-- The address of an element: of rows that nobody writes to. -/
theorem ex_indexAddr_sl (T : TypeId) (x y : Operand) (k : IntKind) (i : Nat) (ex : Bool) (rows : List (List AV)) (e : Nat) (r re : TRec) (row : List AV) (hx : evA t x = .sl ex rows) (hy : evA t y = .v (.int k (i : Int))) (hT : look C.tab T = some r) (he : r.kind = .slice e)
    (hE : look C.tab e = some re) (hr : rows[i]? = some row) (hk : row.length = re.size) (hN : d < N) :
    ExOk C.P N ⟨some d, .indexAddr T x y, ty, pos, af, gd⟩ t h ⟨opT x ++ opT y, [], some d, .fp rows i 0, [], []⟩ :=
  ex_pure _ _ rfl hN fun F ρ a w _ hs _ => by
    have h1 := evA_sound (x := x) hs (fun j hj => List.mem_append_left _ hj)
    have h2 := evA_sound (x := y) hs (fun j hj => List.mem_append_right _ hj)
    rw [hx] at h1; rw [hy] at h2
    obtain ⟨h2, _⟩ := h2.v_inv
    have hi : i < rows.length := (List.getElem?_eq_some_iff.1 hr).1
    rcases h1.sl_inv with ⟨h3, _⟩ | ⟨b, o, cap, c, e', fr, kk, hb, _, _, hsz, hkk, hR, hv⟩
    · rw [h3] at hi; simp at hi
    · have hk' : re.size = kk := by rw [← hk]; exact hkk row (List.mem_of_getElem? hr)
      have hadd : (⟨b, o, none⟩ : Addr).add (i * kk) = ⟨b, o + i * kk + 0, none⟩ := by unfold Addr.add; split <;> simp_all
      refine ⟨.pointer (some ⟨b, o + i * kk + 0, none⟩), ?_, .fp _ b o c e' fr kk rows i 0 hb hi hsz hkk hR⟩
      simp only [execOp, hv, h2, Instr.indexAt, asIntOf, Sem.run_bind, Sem.run_pure, Result.andThen_ok, run_underlying (slice_spec (C.ok T r hT) he)]
      have hlt : (0 ≤ (i : Int) ∧ (i : Int) < (rows.length : Int)) = True := by simp; omega
      simp only [Sem.run_ite, Sem.run_bind, Sem.run_pure, Result.andThen_ok, hlt, if_true, run_sizeOf (C.ok e re hE), hk', Int.toNat_natCast, hadd]

theorem ex_indexAddr_own (T : TypeId) (x y : Operand) (kd : IntKind) (i n off len : Nat) (ex : Bool) (rows : List (List AV)) (e : Nat) (r re : TRec) (hx : evA t x = .os n off len) (hy : evA t y = .v (.int kd (i : Int))) (hT : look C.tab T = some r) (he : r.kind = .slice e)
    (hE : look C.tab e = some re) (hn : h n = .own ex re.size rows) (hi : i < len) (hN : d < N) :
    ExOk C.P N ⟨some d, .indexAddr T x y, ty, pos, af, gd⟩ t h ⟨opT x ++ opT y, [n], some d, .op n (off + i) 0, [], []⟩ :=
  ex_pure _ _ rfl hN fun F ρ a w _ hs hh => by
    have h1 := evA_sound (x := x) hs (fun j hj => List.mem_append_left _ hj)
    have h2 := evA_sound (x := y) hs (fun j hj => List.mem_append_right _ hj)
    rw [hx] at h1; rw [hy] at h2
    obtain ⟨h2, _⟩ := h2.v_inv
    have h3 := hh n (by simp)
    rw [hn] at h3
    rcases h1.os_inv with ⟨_, _, h4, _⟩ | ⟨b, k, cap, ad, hρ, hv, hl, ha⟩
    · omega
    · obtain ⟨rfl, c, e', hb, hsz, hle, hex, hR⟩ := own_block h3 hρ
      have ha' := ha (by omega)
      subst ha'
      have hadd : (⟨b, off * re.size, none⟩ : Addr).add (i * re.size) = ⟨b, (off + i) * re.size + 0, none⟩ := by unfold Addr.add; rw [Nat.add_mul]; split <;> simp_all
      refine ⟨.pointer (some ⟨b, (off + i) * re.size + 0, none⟩), ?_, .op _ n b re.size cap _ 0 hρ⟩
      simp only [execOp, hv, h2, Instr.indexAt, asIntOf, Sem.run_bind, Sem.run_pure, Result.andThen_ok, run_underlying (slice_spec (C.ok T r hT) he)]
      have hlt : (0 ≤ (i : Int) ∧ (i : Int) < (len : Int)) = True := by simp; omega
      simp only [Sem.run_ite, Sem.run_bind, Sem.run_pure, Result.andThen_ok, hlt, if_true, run_sizeOf (C.ok e re hE), Int.toNat_natCast, hadd]

/-- A string of these bytes. -/
def str (l : List UInt8) : Value := .string ⟨l.toArray⟩

theorem size_str (l : List UInt8) : (ByteArray.mk l.toArray).size = l.length := by
  show l.toArray.size = _
  simp

theorem string_spec {P : Program} {T : Nat} {r : TRec} (hT : trec P T = some r) (he : r.kind = .string) : P.underlying T = some .string := by
  obtain ⟨dd, i, z, hd, _, _, hk, _⟩ := trec_spec hT
  rw [he] at hk
  cases dd <;> first | (simp only [kindOf, TK.slice.injEq] at hk; subst hk; exact hd) | exact hd | (simp [kindOf] at hk)

theorem ex_index_str (T : TypeId) (x y : Operand) (kd : IntKind) (i : Nat) (l : List UInt8) (c : UInt8) (r : TRec) (hx : evA t x = .v (str l)) (hy : evA t y = .v (.int kd (i : Int))) (hT : look C.tab T = some r) (he : r.kind = .string)
    (hc : l[i]? = some c) (hN : d < N) : ExOk C.P N ⟨some d, .index T x y, ty, pos, af, gd⟩ t h ⟨opT x ++ opT y, [], some d, .v (.int .u8 (c.toNat : Int)), [], []⟩ :=
  ex_pure _ _ rfl hN fun F ρ a w _ hs _ => by
    have h1 := evA_sound (x := x) hs (fun j hj => List.mem_append_left _ hj)
    have h2 := evA_sound (x := y) hs (fun j hj => List.mem_append_right _ hj)
    rw [hx] at h1; rw [hy] at h2
    obtain ⟨h1, _⟩ := h1.v_inv
    obtain ⟨h2, _⟩ := h2.v_inv
    have hi : i < l.length := (List.getElem?_eq_some_iff.1 hc).1
    have hget : ∀ (hsz : i < (ByteArray.mk l.toArray).size), (ByteArray.mk l.toArray)[i]'hsz = c := fun hsz => by
      have h3 := (List.getElem?_eq_some_iff.1 hc).2
      show l.toArray[i]'_ = c
      simpa using h3
    have hsz : i < (ByteArray.mk l.toArray).size := by show i < l.toArray.size; simpa using hi
    refine ⟨.int .u8 (c.toNat : Int), ?_, .v _ _ rfl⟩
    simp only [execOp, h1, h2, str, Instr.index, asIntOf, Sem.run_bind, Sem.run_pure, Result.andThen_ok, run_underlying (string_spec (C.ok T r hT) he)]
    have hnn : (0 ≤ (i : Int)) = True := by simp
    simp only [hnn, if_true, Int.toNat_natCast, getElem?_pos (ByteArray.mk l.toArray) i hsz, hget hsz, Sem.run_pure, Result.andThen_ok]

theorem ex_len_str (argT ty' : Nat) (x : Operand) (l : List UInt8) (r : TRec) (hx : evA t x = .v (str l)) (hT : look C.tab argT = some r) (he : r.kind = .string) (hN : d < N) :
    ExOk C.P N ⟨some d, .call ⟨.builtin .len, #[x], #[argT]⟩, ty', pos, af, gd⟩ t h ⟨opT x, [], some d, .v (.int .i64 (l.length : Int)), [], []⟩ :=
  ex_pure _ _ rfl hN fun F ρ a w _ hs _ => by
    have h1 := evA_sound (x := x) hs (fun j hj => hj)
    rw [hx] at h1
    obtain ⟨h1, _⟩ := h1.v_inv
    refine ⟨.int .i64 (l.length : Int), ?_, .v _ _ rfl⟩
    simp [execOp, resolve, invoke, builtin, Builtin.len_, h1, str, run_underlying (string_spec (C.ok _ r hT) he), goInt, size_str]

theorem ex_len_sl (argT ty' : Nat) (x : Operand) (ex : Bool) (rows : List (List AV)) (r : TRec) (e : Nat) (hx : evA t x = .sl ex rows) (hT : look C.tab argT = some r) (he : r.kind = .slice e) (hN : d < N) :
    ExOk C.P N ⟨some d, .call ⟨.builtin .len, #[x], #[argT]⟩, ty', pos, af, gd⟩ t h ⟨opT x, [], some d, .v (.int .i64 (rows.length : Int)), [], []⟩ :=
  ex_pure _ _ rfl hN fun F ρ a w _ hs _ => by
    have h1 := evA_sound (x := x) hs (fun j hj => hj)
    rw [hx] at h1
    have hu := slice_spec (C.ok _ r hT) he
    refine ⟨.int .i64 (rows.length : Int), ?_, .v _ _ rfl⟩
    rcases h1.sl_inv with ⟨h3, ad, cap, hv, _⟩ | ⟨b, o, cap, c, e', fr, kk, hb, _, _, hsz, hkk, hR, hv⟩
    · subst h3
      simp [execOp, resolve, invoke, builtin, Builtin.len_, hv, run_underlying hu, goInt]
    · simp [execOp, resolve, invoke, builtin, Builtin.len_, hv, run_underlying hu, goInt]

theorem ex_len_own (argT ty' : Nat) (x : Operand) (n off len : Nat) (r : TRec) (e : Nat) (hx : evA t x = .os n off len) (hT : look C.tab argT = some r) (he : r.kind = .slice e) (hN : d < N) :
    ExOk C.P N ⟨some d, .call ⟨.builtin .len, #[x], #[argT]⟩, ty', pos, af, gd⟩ t h ⟨opT x, [], some d, .v (.int .i64 (len : Int)), [], []⟩ :=
  ex_pure _ _ rfl hN fun F ρ a w _ hs _ => by
    have h1 := evA_sound (x := x) hs (fun j hj => hj)
    rw [hx] at h1
    have hu := slice_spec (C.ok _ r hT) he
    refine ⟨.int .i64 (len : Int), ?_, .v _ _ rfl⟩
    rcases h1.os_inv with ⟨_, _, rfl, ad0, hv⟩ | ⟨b, k, cap, ad, hρ, hv, hl, ha⟩
    · simp [execOp, resolve, invoke, builtin, Builtin.len_, hv, run_underlying hu, goInt]
    · simp [execOp, resolve, invoke, builtin, Builtin.len_, hv, run_underlying hu, goInt]

end ops
end Go.Ab

/- The abstract layer, 8: strings; structs compared; structs and slices built; slices cut. -/
set_option linter.unusedSimpArgs false
set_option linter.unusedVariables false
namespace Go.Ab
open Go.RowKit

section ops
variable {C : Cx} {N d : Nat} {ty : TypeId} {pos : String} {af : Array Edge} {gd : Option (Nat × Bool)} {t : Nat → AV} {h : Nat → HB}

theorem toList_mk (l : List UInt8) : (ByteArray.mk l.toArray).toList = l := by rw [ByteArray.toList_eq]
theorem lbeq (a b : List UInt8) : (a == b) = decide (a = b) := by by_cases h : a = b <;> simp [h]

/-- Strings compared. -/
def scmp : BinOp → List UInt8 → List UInt8 → Option Bool
  | .eql, a, b => some (decide (a = b))
  | .neq, a, b => some (!decide (a = b))
  | .lss, a, b => some (Op.bytesLess a b)
  | .leq, a, b => some (Op.bytesLess a b || decide (a = b))
  | .gtr, a, b => some (!(Op.bytesLess a b || decide (a = b)))
  | .geq, a, b => some (!Op.bytesLess a b)
  | _, _, _ => none

theorem ex_scmp (op : BinOp) (T : TypeId) (x y : Operand) (yT : TypeId) (a b : List UInt8) (c : Bool) (hx : evA t x = .v (str a)) (hy : evA t y = .v (str b)) (hc : scmp op a b = some c) (hN : d < N) :
    ExOk C.P N ⟨some d, .binOp op T x y yT, ty, pos, af, gd⟩ t h ⟨opT x ++ opT y, [], some d, .v (.bool c), [], []⟩ :=
  ex_pure _ _ rfl hN fun F ρ act w _ hs _ => by
    have h1 := evA_sound (x := x) hs (fun j hj => List.mem_append_left _ hj)
    have h2 := evA_sound (x := y) hs (fun j hj => List.mem_append_right _ hj)
    rw [hx] at h1; rw [hy] at h2
    obtain ⟨h1, _⟩ := h1.v_inv
    obtain ⟨h2, _⟩ := h2.v_inv
    refine ⟨.bool c, ?_, .v _ _ rfl⟩
    cases op <;> simp only [scmp, Option.some.injEq, reduceCtorEq] at hc <;> subst hc <;> simp [execOp, h1, h2, str, eqGuard, binOp, Op.stringOp, toList_mk, lbeq]

theorem ex_sadd (T : TypeId) (x y : Operand) (yT : TypeId) (a b : List UInt8) (hx : evA t x = .v (str a)) (hy : evA t y = .v (str b)) (hl : a.length + b.length ≤ 9223372036854775807) (hN : d < N) :
    ExOk C.P N ⟨some d, .binOp .add T x y yT, ty, pos, af, gd⟩ t h ⟨opT x ++ opT y, [], some d, .v (str (a ++ b)), [], []⟩ :=
  ex_pure _ _ rfl hN fun F ρ act w _ hs _ => by
    have h1 := evA_sound (x := x) hs (fun j hj => List.mem_append_left _ hj)
    have h2 := evA_sound (x := y) hs (fun j hj => List.mem_append_right _ hj)
    rw [hx] at h1; rw [hy] at h2
    obtain ⟨h1, _⟩ := h1.v_inv
    obtain ⟨h2, _⟩ := h2.v_inv
    refine ⟨str (a ++ b), ?_, .v _ _ rfl⟩
    have happ : (ByteArray.mk a.toArray) ++ (ByteArray.mk b.toArray) = ByteArray.mk (a ++ b).toArray := by
      have h : ((⟨a.toArray⟩ : ByteArray) ++ (⟨b.toArray⟩ : ByteArray)).data = (a ++ b).toArray := by simp
      calc (⟨a.toArray⟩ : ByteArray) ++ (⟨b.toArray⟩ : ByteArray) = ⟨((⟨a.toArray⟩ : ByteArray) ++ (⟨b.toArray⟩ : ByteArray)).data⟩ := rfl
        _ = _ := by rw [h]
    have hmax : ¬ (((ByteArray.mk a.toArray).size + (ByteArray.mk b.toArray).size : Nat) : Int) > IntKind.i64.max := by
      rw [size_str, size_str]
      have : IntKind.i64.max = 9223372036854775807 := rfl
      rw [this]; omega
    simp only [execOp, h1, h2, str, eqGuard, binOp, Op.stringOp, happ, hmax, if_false, Sem.run_bind, Sem.run_pure, Result.andThen_ok]
    simp [happ]

/-- A string cut. -/
theorem ex_slice_str (T : TypeId) (x : Operand) (lo hi : Option Operand) (l : List UInt8) (a b : Nat) (r : TRec) (hx : evA t x = .v (str l)) (hT : look C.tab T = some r) (he : r.kind = .string)
    (ha : match lo with | none => a = 0 | some o => ∃ k, evA t o = .v (.int k (a : Int))) (hb : match hi with | none => b = l.length | some o => ∃ k, evA t o = .v (.int k (b : Int))) (hab : a ≤ b) (hbl : b ≤ l.length) (hN : d < N) :
    ExOk C.P N ⟨some d, .slice T x lo hi none, ty, pos, af, gd⟩ t h ⟨opT x ++ (lo.toList.flatMap opT ++ hi.toList.flatMap opT), [], some d, .v (str ((l.take b).drop a)), [], []⟩ :=
  ex_pure _ _ rfl hN fun F ρ act w _ hs _ => by
    have h1 := evA_sound (x := x) hs (fun j hj => List.mem_append_left _ hj)
    rw [hx] at h1
    obtain ⟨h1, _⟩ := h1.v_inv
    refine ⟨str ((l.take b).drop a), ?_, .v _ _ rfl⟩
    have hex : ByteArray.extract ⟨l.toArray⟩ a b = ⟨((l.take b).drop a).toArray⟩ := by
      have h : (ByteArray.extract ⟨l.toArray⟩ a b).data = ((l.take b).drop a).toArray := by simp [List.drop_take]
      calc ByteArray.extract ⟨l.toArray⟩ a b = ⟨(ByteArray.extract ⟨l.toArray⟩ a b).data⟩ := rfl
        _ = _ := by rw [h]
    have hu := string_spec (C.ok T r hT) he
    have hsb : ∀ (o : Operand) (n y : Nat) (code : BoundsCode) (k : IntKind), act.eval o = .int k (n : Int) → n ≤ y → (Instr.sliceBound (act.eval o) y code).run C.P w = .ok n w := by
      intro o n y code k ho hny
      have : (0 ≤ (n : Int) ∧ (n : Int) ≤ (y : Int)) = True := by simp; omega
      simp only [Instr.sliceBound, ho, asIntOf, Sem.run_bind, Sem.run_pure, Result.andThen_ok, Sem.run_ite, this, if_true, Int.toNat_natCast]
    have hLo : ∀ o, lo = some o → ∃ k, act.eval o = .int k (a : Int) := by
      intro o ho
      subst ho
      obtain ⟨k, hk⟩ := ha
      have := evA_sound (x := o) hs (fun j hj => List.mem_append_right _ (List.mem_append_left _ (by simpa using hj)))
      rw [hk] at this
      exact ⟨k, this.v_inv.1⟩
    have hHi : ∀ o, hi = some o → ∃ k, act.eval o = .int k (b : Int) := by
      intro o ho
      subst ho
      obtain ⟨k, hk⟩ := hb
      have := evA_sound (x := o) hs (fun j hj => List.mem_append_right _ (List.mem_append_right _ (by simpa using hj)))
      rw [hk] at this
      exact ⟨k, this.v_inv.1⟩
    have hbd : (Instr.sliceBounds false (ByteArray.mk l.toArray).size (ByteArray.mk l.toArray).size (lo.map act.eval) (hi.map act.eval) none).run C.P w = .ok (a, b, (ByteArray.mk l.toArray).size) w := by
      rw [size_str]
      unfold Instr.sliceBounds
      cases hi with
      | none =>
        simp only at hb
        subst hb
        cases lo with
        | none => simp only at ha; subst ha; simp
        | some o => obtain ⟨k, hk⟩ := hLo o rfl; simp [hsb o a l.length .sliceB k hk hab]
      | some o' =>
        obtain ⟨k', hk'⟩ := hHi o' rfl
        cases lo with
        | none => simp only at ha; subst ha; simp [hsb o' b l.length .sliceAlen k' hk' hbl]
        | some o => obtain ⟨k, hk⟩ := hLo o rfl; simp [hsb o' b l.length .sliceAlen k' hk' hbl, hsb o a b .sliceB k hk hab]
    simp only [execOp, Instr.sliceAt, Sem.run_bind, run_underlying hu, Result.andThen_ok, Instr.slice, h1, str, Option.map_none, Option.isSome_none, Bool.false_eq_true, if_false, hbd, Sem.run_pure, hex]

/-- Which kinds the fields of a struct are, where it may be compared cell by cell: 0 an integer, 1 a string, 2 a bool. -/
def eqKs (P : Program) (T : Nat) : Option (List Nat) :=
  match P.underlying T with
  | some (.struct fs) =>
    if P.stoodInHeld T || P.eqGuardType P.depth T then none
    else fs.toList.zipIdx.mapM fun (f, i) => if f.name == "_" || f.offset != i then none else match P.underlying f.type with
      | some (.int _) => some 0
      | some .string => some 1
      | some .bool => some 2
      | _ => none
  | _ => none

def cellEq : Nat → AV → AV → Option Bool
  | 0, .v (.int k a), .v (.int k' b) => if k = k' then some (decide (a = b)) else none
  | 1, .v (.string a), .v (.string b) => some (decide (a.data.toList = b.data.toList))
  | 2, .v (.bool a), .v (.bool b) => some (decide (a = b))
  | _, _, _ => none

def rowEq : List Nat → List AV → List AV → Option Bool
  | [], [], [] => some true
  | k :: ks, x :: xs, y :: ys =>
    match cellEq k x y, rowEq ks xs ys with
    | some b, some c => some (b && c)
    | _, _ => none
  | _, _, _ => none

theorem mapM_some {α β : Type} {f : α → Option β} : ∀ {l : List α} {l' : List β}, l.mapM f = some l' → l.length = l'.length ∧ ∀ (i : Nat) x, l[i]? = some x → ∃ y, l'[i]? = some y ∧ f x = some y
  | [], l', h => by simp at h; subst h; exact ⟨rfl, fun i x h => by cases i <;> cases h⟩
  | x :: l, l', h => by
    rw [List.mapM_cons] at h
    cases hx : f x with
    | none => simp [hx] at h
    | some y =>
      cases hl : l.mapM f with
      | none => simp [hx, hl] at h
      | some l2 =>
        simp [hx, hl] at h
        subst h
        obtain ⟨h1, h2⟩ := mapM_some hl
        refine ⟨by simp [h1], fun i z hi => ?_⟩
        cases i with
        | zero => simp at hi; subst hi; exact ⟨y, rfl, hx⟩
        | succ i => exact h2 i z (by simpa using hi)

theorem run_cellEq {P : Program} {F : Still} {ρ : Places} {w : World} {k : Nat} {x y : AV} {u v : Value} {T : Nat} {b : Bool} {dp : Nat} (hx : M F ρ u x) (hy : M F ρ v y) (hb : cellEq k x y = some b)
    (hk : (match P.underlying T with | some (.int _) => some 0 | some .string => some 1 | some .bool => some 2 | _ => none) = some k) : (Op.equalIn (dp + 1) T u v).run P w = .ok b w ∧ u.oneCell' = true := by
  match k, x, y, hb with
  | 0, .v (.int kk a), .v (.int k' c), hb =>
    obtain ⟨rfl, _⟩ := hx.v_inv
    obtain ⟨rfl, _⟩ := hy.v_inv
    simp only [cellEq] at hb
    split at hb
    · rename_i hkk
      subst hkk
      simp only [Option.some.injEq] at hb
      subst hb
      split at hk <;> simp at hk
      rename_i hu
      rw [run_equalIn_int w dp T kk _ a c hu, ibeq]
      exact ⟨rfl, rfl⟩
    · cases hb
  | 1, .v (.string a), .v (.string c), hb =>
    obtain ⟨rfl, _⟩ := hx.v_inv
    obtain ⟨rfl, _⟩ := hy.v_inv
    simp only [cellEq, Option.some.injEq] at hb
    subst hb
    split at hk <;> simp at hk
    rename_i hu
    rw [run_equalIn_string w dp T a c hu, ByteArray.toList_eq, ByteArray.toList_eq, lbeq]
    exact ⟨rfl, rfl⟩
  | 2, .v (.bool a), .v (.bool c), hb =>
    obtain ⟨rfl, _⟩ := hx.v_inv
    obtain ⟨rfl, _⟩ := hy.v_inv
    simp only [cellEq, Option.some.injEq] at hb
    subst hb
    split at hk <;> simp at hk
    rename_i hu
    rw [run_equalIn_bool' w dp T a c hu]
    exact ⟨by cases a <;> cases c <;> rfl, rfl⟩

theorem run_rowEq {P : Program} {F : Still} {ρ : Places} {w : World} {us vs : List Value} {dp : Nat} : ∀ (fs : List Field) (n : Nat) (ks : List Nat) (xs ys : List AV) (b : Bool),
    (fs.zipIdx n).mapM (fun (f, i) => if f.name == "_" || f.offset != i then none else match P.underlying f.type with | some (.int _) => some 0 | some .string => some 1 | some .bool => some 2 | _ => none) = some ks →
    (∀ (i : Nat) x, xs[i]? = some x → ∃ u, us[n + i]? = some u ∧ M F ρ u x) → (∀ (i : Nat) y, ys[i]? = some y → ∃ v, vs[n + i]? = some v ∧ M F ρ v y) → rowEq ks xs ys = some b →
    (Op.eqFields (dp + 1) us.toArray vs.toArray fs).run P w = .ok b w
  | [], n, ks, xs, ys, b, hm, hx, hy, hb => by
    simp at hm; subst hm
    match xs, ys, hb with
    | [], [], hb => simp [rowEq] at hb; subst hb; rfl
  | f :: fs, n, ks, xs, ys, b, hm, hx, hy, hb => by
    rw [List.zipIdx_cons, List.mapM_cons] at hm
    dsimp only at hm
    cases hc : (f.name == "_" || f.offset != n) with
    | true => simp [hc] at hm
    | false =>
      simp only [hc, Bool.false_eq_true, if_false] at hm
      cases hk : (match P.underlying f.type with | some (.int _) => some 0 | some .string => some 1 | some .bool => some 2 | _ => none : Option Nat) with
      | none => rw [hk] at hm; simp at hm
      | some k =>
        rw [hk] at hm
        cases hl : (fs.zipIdx (n + 1)).mapM (fun (f, i) => if f.name == "_" || f.offset != i then none else match P.underlying f.type with | some (.int _) => some 0 | some .string => some 1 | some .bool => some 2 | _ => none) with
        | none => rw [hl] at hm; simp at hm
        | some ks' =>
          rw [hl] at hm
          simp at hm
          subst hm
          match xs, ys, hb with
          | x :: xs, y :: ys, hb =>
            simp only [rowEq] at hb
            split at hb
            · rename_i b1 b2 e1 e2
              simp only [Option.some.injEq] at hb
              subst hb
              obtain ⟨u, hu, hmu⟩ := hx 0 x rfl
              obtain ⟨v, hv, hmv⟩ := hy 0 y rfl
              rw [Nat.add_zero] at hu hv
              have hname : f.name ≠ "_" := by intro e; simp [e] at hc
              have hoff : f.offset = n := by
                simp only [Bool.or_eq_false_iff, bne_eq_false_iff_eq] at hc
                exact hc.2
              obtain ⟨hrun, _⟩ := run_cellEq (P := P) (w := w) (dp := dp) hmu hmv e1 hk
              have hagg : (isAgg f.type).run P w = .ok false w := by
                unfold isAgg
                split at hk
                all_goals first | (rename_i hu'; simp only [Sem.run_bind, run_underlying hu', Result.andThen_ok]; rfl) | simp at hk
              have hpu : (part f.type us.toArray f.offset).run P w = .ok u w := by
                simp only [part, Sem.run_bind, hagg, Result.andThen_ok, Bool.false_eq_true, if_false, hoff, List.getElem?_toArray, hu, Sem.run_pure]
              have hpv : (part f.type vs.toArray f.offset).run P w = .ok v w := by
                simp only [part, Sem.run_bind, hagg, Result.andThen_ok, Bool.false_eq_true, if_false, hoff, List.getElem?_toArray, hv, Sem.run_pure]
              have ih := run_rowEq (P := P) (F := F) (ρ := ρ) (w := w) (us := us) (vs := vs) (dp := dp) fs (n + 1) ks' xs ys b2 hl
                (fun i x' hi => by have := hx (i + 1) x' (by simpa using hi); rw [show n + 1 + i = n + (i + 1) from by omega]; exact this)
                (fun i y' hi => by have := hy (i + 1) y' (by simpa using hi); rw [show n + 1 + i = n + (i + 1) from by omega]; exact this) e2
              simp only [Op.eqFields, hname, ne_eq, not_false_eq_true, if_true, Sem.run_bind, hpu, hpv, hrun, Result.andThen_ok]
              cases b1
              · simp
              · simp [ih]
            · cases hb

theorem ex_rowEq (op : BinOp) (T : TypeId) (x y : Operand) (yT : TypeId) (xs ys : List AV) (ks : List Nat) (b c : Bool) (hx : evA t x = .agg xs) (hy : evA t y = .agg ys) (hk : eqKs C.P T = some ks) (hb : rowEq ks xs ys = some b)
    (hop : (op = .eql ∧ c = b) ∨ (op = .neq ∧ c = !b)) (hN : d < N) :
    ExOk C.P N ⟨some d, .binOp op T x y yT, ty, pos, af, gd⟩ t h ⟨opT x ++ opT y, [], some d, .v (.bool c), [], []⟩ :=
  ex_pure _ _ rfl hN fun F ρ act w _ hs _ => by
    have h1 := evA_sound (x := x) hs (fun j hj => List.mem_append_left _ hj)
    have h2 := evA_sound (x := y) hs (fun j hj => List.mem_append_right _ hj)
    rw [hx] at h1; rw [hy] at h2
    obtain ⟨us, h1, l1, m1⟩ := h1.agg_inv
    obtain ⟨vs, h2, l2, m2⟩ := h2.agg_inv
    unfold eqKs at hk
    split at hk
    · rename_i fs hu
      split at hk
      · cases hk
      · rename_i hnot
        simp only [Bool.or_eq_true, not_or, Bool.not_eq_true] at hnot
        have hfo : C.P.fieldsOf T = fs := by unfold Program.fieldsOf; rw [hu]
        have hrow := run_rowEq (P := C.P) (F := F) (ρ := ρ) (w := w) (us := us) (vs := vs) (dp := 9998) fs.toList 0 ks xs ys b hk
          (fun i x' hi => ⟨us[i]'(by have := (List.getElem?_eq_some_iff.1 hi).1; omega), by rw [Nat.zero_add]; exact List.getElem?_eq_getElem _, m1 i _ x' (List.getElem?_eq_getElem _) hi⟩)
          (fun i x' hi => ⟨vs[i]'(by have := (List.getElem?_eq_some_iff.1 hi).1; omega), by rw [Nat.zero_add]; exact List.getElem?_eq_getElem _, m2 i _ x' (List.getElem?_eq_getElem _) hi⟩) hb
        have heq : (Op.equalIn 10000 T (.agg us.toArray) (.agg vs.toArray)).run C.P w = .ok b w := by
          rw [run_equalIn_agg w 9999 T us.toArray vs.toArray (by rw [hfo]; exact hu) hnot.1, hfo]
          exact hrow
        refine ⟨.bool c, ?_, .v _ _ rfl⟩
        simp only [execOp, h1, h2, Sem.run_bind, run_eqGuard_agg w op T x y us.toArray vs.toArray hnot.2, Result.andThen_ok]
        rcases hop with ⟨rfl, rfl⟩ | ⟨rfl, rfl⟩
        · rw [run_eql_struct, heq]; rfl
        · rw [run_neq_struct, heq]; rfl
    · cases hk
end ops
end Go.Ab

/- The abstract layer, 9: structs and slices built; slices cut; append. -/
set_option linter.unusedSimpArgs false
set_option linter.unusedVariables false
namespace Go.Ab
open Go.RowKit

/-- Cells by value and as told. -/
def CellsAt (F : Still) (ρ : Places) (c : Array Value) (xs : List AV) : Prop := c.size = xs.length ∧ ∀ (i : Nat) v x, c[i]? = some v → xs[i]? = some x → M F ρ v x

theorem foldl_put (off : Nat) : ∀ (l : List Value) (s : Nat) (c : Array Value), ((l.zipIdx s).foldl (fun cs (x : Value × Nat) => cs.setIfInBounds (off + x.2) x.1) c).size = c.size ∧
    ∀ p, p < c.size → ((l.zipIdx s).foldl (fun cs (x : Value × Nat) => cs.setIfInBounds (off + x.2) x.1) c)[p]? = if off + s ≤ p ∧ p < off + s + l.length then l[p - (off + s)]? else c[p]?
  | [], s, c => ⟨rfl, fun p _ => by simp; omega⟩
  | v :: l, s, c => by
    simp only [List.zipIdx_cons, List.foldl_cons]
    obtain ⟨h1, h2⟩ := foldl_put off l (s + 1) (c.setIfInBounds (off + s) v)
    refine ⟨by rw [h1]; simp, fun p hp => ?_⟩
    rw [h2 p (by simpa using hp)]
    by_cases hc : off + (s + 1) ≤ p ∧ p < off + (s + 1) + l.length
    · rw [if_pos hc, if_pos (by simp; omega), show p - (off + s) = p - (off + (s + 1)) + 1 from by omega]; simp
    · rw [if_neg hc]
      by_cases he : off + s = p
      · subst he
        rw [if_pos (by simp)]
        simp [hp]
      · rw [if_neg (by simp; omega), Array.getElem?_setIfInBounds_ne he]

/-- Parts laid over cells. -/
def fillA (place : Nat → Option (Nat × Nat)) : List AV → List (Nat × AV) → Option (List AV)
  | cells, [] => some cells
  | cells, (i, x) :: l =>
    match place i with
    | none => none
    | some (off, size) => if (cellsOf x).length = size ∧ off + size ≤ cells.length ∧ (cellsOf x).all cellLike = true then fillA place (putRow cells off (cellsOf x)) l else none

theorem fill_sound {F : Still} {ρ : Places} {place : Nat → Option (Nat × Nat)} : ∀ (ps : List (Nat × Value)) (qs : List (Nat × AV)) (c : Array Value) (xs ys : List AV), CellsAt F ρ c xs → ps.length = qs.length →
    (∀ (i : Nat) p q, ps[i]? = some p → qs[i]? = some q → p.1 = q.1 ∧ M F ρ p.2 q.2) → fillA place xs qs = some ys → ∃ c', Instr.fill place c ps = some c' ∧ CellsAt F ρ c' ys
  | [], [], c, xs, ys, hc, _, _, h => by simp [fillA] at h; subst h; exact ⟨c, rfl, hc⟩
  | (i, v) :: ps, (i', x) :: qs, c, xs, ys, hc, hl, hm, h => by
    obtain ⟨e, hv⟩ := hm 0 (i, v) (i', x) rfl rfl
    have e : i = i' := e
    have hv : M F ρ v x := hv
    subst e
    simp only [fillA] at h
    cases hp : place i with
    | none => rw [hp] at h; cases h
    | some os =>
      obtain ⟨off, size⟩ := os
      rw [hp] at h
      simp only at h
      split at h
      · rename_i hcond
        obtain ⟨h1, h2, h3⟩ := hcond
        obtain ⟨c1, c2, c3⟩ := M.cells hv h3
        have hsz : v.cells.size = size := by rw [← Array.length_toList, c1, h1]
        have hsz2 : v.cells.toList.length = size := by rw [c1, h1]
        have hsz3 : (cellsOf x).length = size := h1
        obtain ⟨f1, f2⟩ := foldl_put off v.cells.toList 0 c
        have hfold : v.cells.zipIdx.foldl (fun cs (x : Value × Nat) => cs.setIfInBounds (off + x.2) x.1) c = (v.cells.toList.zipIdx 0).foldl (fun cs (x : Value × Nat) => cs.setIfInBounds (off + x.2) x.1) c := by
          rw [← Array.foldl_toList, Array.toList_zipIdx]
        have hnew : CellsAt F ρ ((v.cells.toList.zipIdx 0).foldl (fun cs (x : Value × Nat) => cs.setIfInBounds (off + x.2) x.1) c) (putRow xs off (cellsOf x)) := by
          refine ⟨by rw [f1, hc.1, putRow_length (by rw [h1]; exact h2)], fun p u y hu hy => ?_⟩
          have hp' : p < c.size := by have := (Array.getElem?_eq_some_iff.1 hu).1; omega
          rw [f2 p hp'] at hu
          simp only [Nat.add_zero] at hu
          unfold putRow at hy
          rw [List.getElem?_append, List.getElem?_append] at hy
          simp only [List.length_append, List.length_take] at hy
          rw [Nat.min_eq_left (by omega)] at hy
          by_cases a1 : p < off
          · rw [if_neg (by omega)] at hu
            rw [if_pos (by omega), if_pos a1, List.getElem?_take, if_pos a1] at hy
            exact hc.2 p u y hu hy
          · by_cases a2 : p < off + (cellsOf x).length
            · rw [if_pos (by omega)] at hu
              rw [if_pos a2, if_neg a1] at hy
              exact c3 _ u y hu hy
            · rw [if_neg (by omega)] at hu
              rw [if_neg a2, List.getElem?_drop, show off + (cellsOf x).length + (p - (off + (cellsOf x).length)) = p from by omega] at hy
              exact hc.2 p u y hu hy
        obtain ⟨c', g1, g2⟩ := fill_sound ps qs _ _ ys hnew (by simpa using hl) (fun j p q hj hq => hm (j + 1) p q (by simpa using hj) (by simpa using hq)) h
        refine ⟨c', ?_, g2⟩
        simp only [Instr.fill, hp]
        rw [if_neg (by rw [hsz]; simp; have := hc.1; omega)]
        rw [← g1, ← hfold]
      · cases h
  | [], _ :: _, _, _, _, _, hl, _, _ => by simp at hl
  | _ :: _, [], _, _, _, _, hl, _, _ => by simp at hl

/-- The places of a struct's fields. -/
def placesOf (tab : List (Nat × TRec)) : List (Nat × Nat) → Option (List (Nat × Nat))
  | [] => some []
  | (off, ty) :: l =>
    match look tab ty, placesOf tab l with
    | some r, some ps => some ((off, r.size) :: ps)
    | _, _ => none

section ops
variable {C : Cx} {N d : Nat} {ty : TypeId} {pos : String} {af : Array Edge} {gd : Option (Nat × Bool)} {t : Nat → AV} {h : Nat → HB}

theorem run_places (w : World) : ∀ (fs : List Field) (ps : List (Nat × Nat)), placesOf C.tab (fs.map fun f => (f.offset, f.type)) = some ps →
    (fs.mapM fun (f : Field) => (do pure (f.offset, ← sizeOf f.type) : Sem (Nat × Nat))).run C.P w = .ok ps w
  | [], ps, h => by simp [placesOf] at h; subst h; simp
  | f :: fs, ps, h => by
    simp only [List.map_cons, placesOf] at h
    split at h
    · rename_i r ps' h1 h2
      simp only [Option.some.injEq] at h
      subst h
      have ih := run_places w fs ps' h2
      rw [List.mapM_cons]
      simp only [Sem.run_bind, run_sizeOf (C.ok _ r h1), Result.andThen_ok, Sem.run_pure, ih]
    · cases h

/-- A struct built. -/
theorem ex_build (T : TypeId) (parts : List (Nat × Operand)) (r : TRec) (fs ps : List (Nat × Nat)) (cs : List AV) (hT : look C.tab T = some r) (hk : r.kind = .struct fs) (hps : placesOf C.tab fs = some ps)
    (hf : fillA (ps[·]?) (r.zero.map ofV) (parts.map fun p => (p.1, evA t p.2)) = some cs) (hN : d < N) :
    ExOk C.P N ⟨some d, .build T parts.toArray, ty, pos, af, gd⟩ t h ⟨parts.flatMap fun p => opT p.2, [], some d, .agg cs, [], []⟩ :=
  ex_pure _ _ rfl hN fun F ρ a w _ hs _ => by
    obtain ⟨dd, inf, z0, hu, _, _, hkind, _⟩ := trec_spec (C.ok T r hT)
    obtain ⟨z, hz, hzc⟩ := run_zeroOf (C.ok T r hT) w
    rw [hk] at hkind
    cases dd with
    | struct fds =>
      simp only [kindOf, TK.struct.injEq] at hkind
      have hpl := run_places (C := C) w fds.toList ps (by rw [← hkind]; exact hps)
      have hc0 : CellsAt F ρ z.cells (r.zero.map ofV) := by
        rw [hzc]
        refine ⟨by simp, fun i v x hv hx => ?_⟩
        rw [List.getElem?_map] at hx
        simp only [List.getElem?_toArray] at hv
        rw [hv] at hx
        simp only [Option.map_some, Option.some.injEq] at hx
        exact hx ▸ ofV_sound F ρ v
      obtain ⟨c', f1, f2⟩ := fill_sound (place := (ps[·]?)) (parts.map fun p => (p.1, a.eval p.2)) (parts.map fun p => (p.1, evA t p.2)) z.cells _ cs hc0 (by simp) (fun i p q hp hq => by
        rw [List.getElem?_map] at hp hq
        cases hpi : parts[i]? with
        | none => rw [hpi] at hp; cases hp
        | some o =>
          rw [hpi] at hp hq
          simp only [Option.map_some, Option.some.injEq] at hp hq
          subst hp; subst hq
          exact ⟨rfl, evA_sound hs fun j hj => List.mem_flatMap.2 ⟨o, List.mem_of_getElem? hpi, hj⟩⟩) hf
      refine ⟨.agg c', ?_, ?_⟩
      · have hpa : (fds.mapM fun (f : Field) => (do pure (f.offset, ← sizeOf f.type) : Sem (Nat × Nat))).run C.P w = .ok ps.toArray w := by
          rw [Array.mapM_eq_mapM_toList, Sem.run_map, hpl]; rfl
        simp only [execOp, Instr.build, Sem.run_bind, hz, Result.andThen_ok, run_underlying hu, hpa]
        have hpe : (fun (i : Nat) => ps.toArray[i]?) = (fun (i : Nat) => ps[i]?) := by funext i; simp
        have hpt : (parts.toArray.map fun (x : Nat × Operand) => (x.1, a.eval x.2)).toList = parts.map fun p => (p.1, a.eval p.2) := by simp
        rw [hpe, hpt, f1]
        rfl
      · have := M.agg (F := F) ρ c'.toList cs (by simpa using f2.1) (fun i v x hv hx => f2.2 i v x (by simpa using hv) hx)
        simpa using this
    | _ => simp [kindOf] at hkind

/-- Parts laid row by row. -/
theorem fill_rows {F : Still} {ρ : Places} {k : Nat} : ∀ (ps : List (Nat × Value)) (qs : List AV) (n0 : Nat) (c : Array Value), ps.length = qs.length → (∀ (i : Nat) p, ps[i]? = some p → p.1 = n0 + i) →
    (∀ (i : Nat) p q, ps[i]? = some p → qs[i]? = some q → M F ρ p.2 q ∧ (cellsOf q).length = k ∧ (cellsOf q).all cellLike = true) → (n0 + qs.length) * k ≤ c.size →
    ∃ c', Instr.fill (fun i => some (i * k, k)) c ps = some c' ∧ c'.size = c.size ∧ (∀ p, p < n0 * k → c'[p]? = c[p]?) ∧
      ∀ (i j : Nat) q x v, qs[i]? = some q → (cellsOf q)[j]? = some x → c'[(n0 + i) * k + j]? = some v → M F ρ v x
  | [], [], n0, c, _, _, _, _ => ⟨c, rfl, rfl, fun _ _ => rfl, fun i j q x v h => by cases i <;> cases h⟩
  | (i0, v) :: ps, q :: qs, n0, c, hl, hn, hm, hs => by
    have e0 : i0 = n0 := by have := hn 0 (i0, v) rfl; simpa using this
    subst e0
    obtain ⟨m1, m2, m3⟩ := hm 0 (i0, v) q rfl rfl
    have m1 : M F ρ v q := m1
    obtain ⟨c1, c2, c3⟩ := M.cells m1 m3
    have hsz : v.cells.toList.length = k := by rw [c1, m2]
    have hsz2 : v.cells.size = k := by rw [← Array.length_toList]; exact hsz
    have hrow : i0 * k + k ≤ c.size := by
      have : (i0 + 1) * k ≤ (i0 + (q :: qs).length) * k := Nat.mul_le_mul_right _ (by simp)
      rw [Nat.add_mul, Nat.one_mul] at this; omega
    obtain ⟨f1, f2⟩ := foldl_put (i0 * k) v.cells.toList 0 c
    have hfold : v.cells.zipIdx.foldl (fun cs (x : Value × Nat) => cs.setIfInBounds (i0 * k + x.2) x.1) c = (v.cells.toList.zipIdx 0).foldl (fun cs (x : Value × Nat) => cs.setIfInBounds (i0 * k + x.2) x.1) c := by
      rw [← Array.foldl_toList, Array.toList_zipIdx]
    obtain ⟨c', g1, g2, g3, g4⟩ := fill_rows ps qs (i0 + 1) _ (by simpa using hl) (fun i p hp => by have := hn (i + 1) p (by simpa using hp); omega) (fun i p q' hp hq => hm (i + 1) p q' (by simpa using hp) (by simpa using hq))
      (show (i0 + 1 + qs.length) * k ≤ ((v.cells.toList.zipIdx 0).foldl (fun cs (x : Value × Nat) => cs.setIfInBounds (i0 * k + x.2) x.1) c).size from by rw [f1]; rw [show i0 + 1 + qs.length = i0 + (q :: qs).length from by simp; omega]; exact hs)
    refine ⟨c', ?_, by rw [g2, f1], fun p hp => ?_, fun i j q' x u hq hx hu => ?_⟩
    · simp only [Instr.fill]
      rw [if_neg (by rw [hsz2]; simp; omega), ← g1, ← hfold]
    · rw [g3 p (by rw [Nat.add_mul]; omega), f2 p (by omega)]
      rw [if_neg (by omega)]
    · cases i with
      | zero =>
        simp only [List.getElem?_cons_zero, Option.some.injEq] at hq
        subst hq
        have hj : j < k := by rw [← m2]; exact (List.getElem?_eq_some_iff.1 hx).1
        rw [Nat.add_zero, g3 _ (by rw [Nat.add_mul]; omega), f2 _ (by omega), if_pos (by omega)] at hu
        rw [show i0 * k + j - (i0 * k + 0) = j from by omega] at hu
        exact c3 j u x hu hx
      | succ i =>
        exact g4 i j q' x u (by simpa using hq) hx (by rw [show i0 + 1 + i = i0 + (i + 1) from by omega]; exact hu)
  | [], _ :: _, _, _, hl, _, _, _ => by simp at hl
  | _ :: _, [], _, _, hl, _, _, _ => by simp at hl

/-- The parts 0, 1, .. in their order. -/
def inOrder : Nat → List (Nat × Operand) → Bool
  | _, [] => true
  | n, p :: l => p.1 == n && inOrder (n + 1) l

theorem inOrder_spec : ∀ (l : List (Nat × Operand)) (n : Nat), inOrder n l = true → ∀ (i : Nat) p, l[i]? = some p → p.1 = n + i
  | [], n, _, i, p, h => by cases i <;> cases h
  | q :: l, n, h, i, p, hi => by
    simp only [inOrder, Bool.and_eq_true, beq_iff_eq] at h
    cases i with
    | zero => simp at hi; subst hi; simpa using h.1
    | succ i => have := inOrder_spec l (n + 1) h.2 i p (by simpa using hi); omega

theorem run_buildSlice {T e len : Nat} {parts : List (Nat × Operand)} {r re : TRec} {rows : List (List AV)} (hT : look C.tab T = some r) (hk : r.kind = .slice e) (hE : look C.tab e = some re)
    (ho : inOrder 0 parts = true) (hl : parts.length = len) (hrows : rows = parts.map fun p => cellsOf (evA t p.2)) (hz : rows.all (fun row => row.length == re.size && row.all cellLike) = true) (hsm : len * re.size ≤ 16777216)
    {F : Still} {ρ : Places} {a : Act} {w : World} (hs : ∀ j, j ∈ parts.flatMap (fun p => opT p.2) → M F ρ (a.tmps.getD j undef) (t j)) :
    ∃ c, (Instr.buildSlice T len (parts.toArray.map fun (x : Nat × Operand) => (x.1, a.eval x.2))).run C.P w = .ok (.slice (some ⟨w.heap.size, 0, none⟩) len len) (w.alloc (.cells c e)) ∧ c.size = len * re.size ∧ RowsAt F ρ c re.size rows := by
  have hu := slice_spec (C.ok T r hT) hk
  obtain ⟨z, hzr, hzc⟩ := run_zeroOf (C.ok e re hE) w
  let c0 : Array Value := (Array.range (len * re.size)).map ((if len * re.size = 0 then #[] else z.cells)[· % (if len * re.size = 0 then #[] else z.cells).size]!)
  have hc0 : c0.size = len * re.size := by simp [c0]
  have hall : ∀ (i : Nat) q, (parts.map fun p => evA t p.2)[i]? = some q → (cellsOf q).length = re.size ∧ (cellsOf q).all cellLike = true := by
    intro i q hq
    have : rows[i]? = some (cellsOf q) := by
      rw [List.getElem?_map] at hq
      rw [hrows, List.getElem?_map]
      cases hpi : parts[i]? with
      | none => rw [hpi] at hq; cases hq
      | some o => rw [hpi] at hq; simp only [Option.map_some, Option.some.injEq] at hq ⊢; rw [hq]
    have := List.all_eq_true.1 hz _ (List.mem_of_getElem? this)
    simpa using this
  obtain ⟨c', g1, g2, g3, g4⟩ := fill_rows (F := F) (ρ := ρ) (k := re.size) (parts.map fun p => (p.1, a.eval p.2)) (parts.map fun p => evA t p.2) 0 c0 (by simp) (fun i p hp => by
      rw [List.getElem?_map] at hp
      cases hpi : parts[i]? with
      | none => rw [hpi] at hp; cases hp
      | some o => rw [hpi] at hp; simp only [Option.map_some, Option.some.injEq] at hp; subst hp; exact inOrder_spec _ _ ho i o hpi) (fun i p q hp hq => by
      refine ⟨?_, hall i q hq⟩
      rw [List.getElem?_map] at hp hq
      cases hpi : parts[i]? with
      | none => rw [hpi] at hp; cases hp
      | some o =>
        rw [hpi] at hp hq
        simp only [Option.map_some, Option.some.injEq] at hp hq
        subst hp; subst hq
        exact evA_sound hs fun j hj => List.mem_flatMap.2 ⟨o, List.mem_of_getElem? hpi, hj⟩) (by rw [hc0]; simp [hl])
  refine ⟨c', ?_, by rw [g2, hc0], ?_, ?_⟩
  · unfold Instr.buildSlice
    have hpt : (parts.toArray.map fun (x : Nat × Operand) => (x.1, a.eval x.2)).toList = parts.map fun p => (p.1, a.eval p.2) := by simp
    simp only [Sem.run_bind, run_underlying hu, Result.andThen_ok, run_sizeOf (C.ok e re hE)]
    rw [if_neg (by omega)]
    by_cases h0 : len * re.size = 0
    · have e0 : (if len * re.size = 0 then #[] else z.cells) = #[] := if_pos h0
      have g := g1
      simp only [c0, e0] at g
      rw [if_pos h0]
      simp only [Sem.run_bind, Sem.run_pure, Result.andThen_ok, hpt, g]
      rfl
    · have e0 : (if len * re.size = 0 then #[] else z.cells) = z.cells := if_neg h0
      have g := g1
      simp only [c0, e0] at g
      rw [if_neg h0]
      simp only [Sem.run_bind, Sem.run_pure, Result.andThen_ok, hzr, hpt, g]
      rfl
  · intro row hrow
    have := List.all_eq_true.1 hz row hrow
    simp only [Bool.and_eq_true, beq_iff_eq] at this
    exact this.1
  · intro i j row x v hi hj hv
    rw [hrows] at hi
    rw [List.getElem?_map] at hi
    cases hpi : parts[i]? with
    | none => rw [hpi] at hi; cases hi
    | some o =>
      rw [hpi] at hi
      simp only [Option.map_some, Option.some.injEq] at hi
      subst hi
      exact g4 i j (evA t o.2) x v (by rw [List.getElem?_map, hpi]; rfl) hj (by rw [Nat.zero_add]; exact hv)

theorem ex_buildSlice (T e len : Nat) (parts : List (Nat × Operand)) (m : Nat) (r re : TRec) (rows : List (List AV)) (hT : look C.tab T = some r) (hk : r.kind = .slice e) (hE : look C.tab e = some re)
    (ho : inOrder 0 parts = true) (hl : parts.length = len) (hrows : (parts.map fun p => cellsOf (evA t p.2)) = rows) (hz : rows.all (fun row => row.length == re.size && row.all cellLike) = true) (hsm : len * re.size ≤ 16777216) (hN : d < N) :
    ExOk C.P N ⟨some d, .buildSlice T len parts.toArray, ty, pos, af, gd⟩ t h ⟨parts.flatMap fun p => opT p.2, [], some d, .os m 0 len, [(m, .own true re.size rows)], [m]⟩ :=
  ex_new _ _ m true _ len _ rfl hN (by rw [← hrows]; simp; omega) (by rw [← hrows]; simp; omega) fun F ρ a w hm => by
    obtain ⟨c, h1, h2, h3⟩ := run_buildSlice hT hk hE ho hl hrows.symm hz hsm (w := w) hm
    refine ⟨.slice (some ⟨w.heap.size, 0, none⟩) len len, c, e, ?_, h2, h3, fun ρ' hρ' _ => ?_⟩
    · simp only [execOp, Sem.run_bind, h1, Result.andThen_ok, Sem.run_pure]
    · have := M.os (F := F) ρ' m w.heap.size re.size len 0 len ⟨w.heap.size, 0, none⟩ hρ' (by omega) (fun _ => by simp)
      simpa using this

/-- An operation that makes one block, which nobody will write to. -/
theorem ex_newfz {P : Program} {o : Oper} {x : AV} (rt : List Nat) (hd : o.dst = some d) (hN : d < N)
    (hrun : ∀ F ρ (a : Act) (w : World), (∀ b o', F b = some o' → w.heap[b]? = some o') → (∀ j, j ∈ rt → M F ρ (a.tmps.getD j undef) (t j)) → ∃ u ob w1, (execOp a.eval o).run P w = .ok (.value u) (w1.alloc ob) ∧ (w1 = w ∨ w1 = w.drew) ∧
      M (fun b => if b = w.heap.size then some ob else F b) ρ u x) :
    ExOk P N o t h ⟨rt, [], some d, x, [], []⟩ := by
  intro B A t' h' a w Q K hBN g hrt hrh _ hK
  obtain ⟨g1, g2, F, ρ, hp, g4⟩ := g
  obtain ⟨u, ob, w1, hr, hw1, hM⟩ := hrun F ρ a w hp.agree (fun j hj => (hrt j hj) ▸ g4 j)
  have hFn : F w.heap.size = none := by
    cases hF : F w.heap.size with
    | none => rfl
    | some o => have := (Array.getElem?_eq_some_iff.1 (hp.agree _ o hF)).1; omega
  have hle : F.le (fun b => if b = w.heap.size then some ob else F b) := by
    intro b o hb
    by_cases hbn : b = w.heap.size
    · rw [hbn, hFn] at hb; cases hb
    · simpa [hbn] using hb
  have hheap : w1.heap = w.heap := by rcases hw1 with rfl | rfl <;> rfl
  have hsz1 : w1.heap.size = w.heap.size := by rw [hheap]
  have hkept : B.kept (w1.alloc ob) := by
    rcases hw1 with rfl | rfl
    · exact hp.kept.alloc ob
    · exact hp.kept.drew.alloc ob
  have hold : ∀ b, b < w.heap.size → (w1.alloc ob).heap[b]? = w.heap[b]? := fun b hb => by
    rw [Below.heap_alloc _ _ _ (by rw [hsz1]; exact hb), hheap]
  have hblk : ∀ n ex k rows, h' n = .own ex k rows → ∀ b c, ρ n = some (some (b, c)) → b < w.heap.size := by
    intro n ex k rows hh b c hρ
    have h1 := hp.own n
    rw [hh] at h1
    rcases h1 with ⟨h2, _⟩ | ⟨b', cap, c', e, h2, h3, _⟩
    · rw [hρ] at h2; cases h2
    · rw [hρ] at h2; simp only [Option.some.injEq, Prod.mk.injEq] at h2
      rw [h2.1]; exact (Array.getElem?_eq_some_iff.1 h3).1
  unfold Oper.wp
  rw [hr, Oper.upon_value]
  refine hK _ _ ⟨by cases ho : o.dst <;> simpa [Act.put] using g1, by rw [put_size]; exact g2, (fun b => if b = w.heap.size then some ob else F b), ρ, ?_, fun i => ?_⟩
  · refine { kept := hkept, agree := fun b o hb => ?_, grow := fun b o hb => hle b o (hp.grow b o hb), fresh := fun b hb => ?_, names := hp.names, dom := fun n hn => .inl (hp.dom n hn), own := fun n => ?_, new := fun n b c ho hn => ?_, sep := hp.sep }
    · by_cases hbn : b = w.heap.size
      · subst hbn
        simp only [if_true, Option.some.injEq] at hb
        rw [← hb, ← hsz1]; exact heap_alloc_new w1 ob
      · simp only [hbn, if_false] at hb
        rw [hold b (Array.getElem?_eq_some_iff.1 (hp.agree b o hb)).1]; exact hp.agree b o hb
    · by_cases hbn : b = w.heap.size
      · exact .inr (.inl (by rw [hbn]; exact hp.kept.size))
      · simp only [hbn, if_false] at hb; exact hp.fresh b hb
    · have h1 := hp.own n
      show OwnAt _ ρ _ n (h' n)
      cases hh : h' n with
      | dead => trivial
      | fz rows =>
        rw [hh] at h1
        rcases h1 with h1 | ⟨b, k, cap, c, e, fr, h1, h2, h3, h4, h5⟩
        · exact .inl h1
        · exact .inr ⟨b, k, cap, c, e, fr, h1, hle _ _ h2, h3, h4, h5.mono hle (Places.le_refl _)⟩
      | mp l =>
        rw [hh] at h1
        obtain ⟨b, es, clock, h1, h2, h3⟩ := h1
        exact ⟨b, es, clock, h1, by rw [hold b (Array.getElem?_eq_some_iff.1 h2).1]; exact h2, h3.mono hle (Places.le_refl _)⟩
      | own ex k rows =>
        rw [hh] at h1
        rcases h1 with h1 | ⟨b, cap, c, e, h1, h2, h3, h4, h5, h6⟩
        · exact .inl h1
        · exact .inr ⟨b, cap, c, e, h1, by rw [hold b (Array.getElem?_eq_some_iff.1 h2).1]; exact h2, h3, h4, h5, h6.mono hle (Places.le_refl _)⟩
    · have h2 := hp.new n b c ho hn
      refine ⟨?_, h2.2⟩
      cases hh : h' n with
      | own ex k rows =>
        have := hblk n ex k rows hh b c hn
        simp only [show ¬ b = w.heap.size from by omega, if_false]
        exact h2.1
      | dead => have ho : (h' n).isOwn = true := ho; rw [hh] at ho; cases ho
      | fz _ => have ho : (h' n).isOwn = true := ho; rw [hh] at ho; cases ho
      | mp l =>
        have := hp.blk ho hn
        simp only [show ¬ b = w.heap.size from by omega, if_false]
        exact h2.1
  · rw [hd, put_getD _ _ _ _ (by omega)]
    unfold Eff.t Eff.wT
    by_cases hi : d = i
    · subst hi; simpa using hM
    · simpa [hi] using (g4 i).mono hle (Places.le_refl ρ)

theorem RowsAt.pure {F : Still} {ρ : Places} {c : Array Value} {k : Nat} {rows : List (List AV)} (h : RowsAt F ρ c k rows) (hp : ∀ row, row ∈ rows → AV.pure.pureL row = true) : RowsAt F noPlaces c k rows :=
  ⟨h.1, fun i j row x v h1 h2 h3 => (h.2 i j row x v h1 h2 h3).moved _ (pureL_mem (hp row (List.mem_of_getElem? h1)) h2)⟩

/-- A literal slice that nobody will write to. -/
theorem ex_buildSlice_fz (T e len : Nat) (parts : List (Nat × Operand)) (r re : TRec) (rows : List (List AV)) (hT : look C.tab T = some r) (hk : r.kind = .slice e) (hE : look C.tab e = some re)
    (ho : inOrder 0 parts = true) (hl : parts.length = len) (hrows : (parts.map fun p => cellsOf (evA t p.2)) = rows) (hz : rows.all (fun row => row.length == re.size && row.all cellLike && AV.pure.pureL row) = true) (hsm : len * re.size ≤ 16777216) (hN : d < N) :
    ExOk C.P N ⟨some d, .buildSlice T len parts.toArray, ty, pos, af, gd⟩ t h ⟨parts.flatMap fun p => opT p.2, [], some d, .sl true rows, [], []⟩ :=
  ex_newfz _ rfl hN fun F ρ a w hag hm => by
    have hz1 : rows.all (fun row => row.length == re.size && row.all cellLike) = true := List.all_eq_true.2 fun row hr => by have := List.all_eq_true.1 hz row hr; simp only [Bool.and_eq_true] at this ⊢; exact this.1
    have hz2 : ∀ row, row ∈ rows → AV.pure.pureL row = true := fun row hr => by have := List.all_eq_true.1 hz row hr; simp only [Bool.and_eq_true] at this; exact this.2
    obtain ⟨c, h1, h2, h3⟩ := run_buildSlice hT hk hE ho hl hrows.symm hz1 hsm (w := w) hm
    refine ⟨.slice (some ⟨w.heap.size, 0, none⟩) len len, .cells c e, w, by simp only [execOp, Sem.run_bind, h1, Result.andThen_ok, Sem.run_pure], .inl rfl, ?_⟩
    have hlen : rows.length = len := by rw [← hrows]; simp [hl]
    have hF : F w.heap.size = none := by
      cases hF : F w.heap.size with
      | none => rfl
      | some o => have := (Array.getElem?_eq_some_iff.1 (hag _ o hF)).1; omega
    have h4 := h3.pure hz2
    have := M.sl (F := fun b => if b = w.heap.size then some (.cells c e) else F b) ρ w.heap.size 0 len c e (0, 0) true re.size rows (by simp) (by omega) (fun _ => hlen.symm) (by rw [hlen, h2]; omega) h3.1
      (fun i j row x v hi hj hv => by
        have hmm := h4.2 i j row x v hi hj (by simpa using hv)
        exact hmm.mono (fun b o hb => by
          by_cases hbn : b = w.heap.size
          · rw [hbn, hF] at hb; cases hb
          · simpa [hbn] using hb) (Places.le_refl _))
    rw [hlen] at this
    exact this
theorem ex_buildSlice_fz1 (T e : Nat) (x : Operand) (r re : TRec) (y : AV) (hx : evA t x = y) (hT : look C.tab T = some r) (hk : r.kind = .slice e) (hE : look C.tab e = some re)
    (hc : (cellsOf y).all cellLike = true ∧ AV.pure.pureL (cellsOf y) = true) (hs : (cellsOf y).length = re.size) (hsm : 1 * re.size ≤ 16777216) (hN : d < N) :
    ExOk C.P N ⟨some d, .buildSlice T 1 #[(0, x)], ty, pos, af, gd⟩ t h ⟨[(0, x)].flatMap fun p => opT p.2, [], some d, .sl true [cellsOf y], [], []⟩ :=
  ex_buildSlice_fz T e 1 [(0, x)] r re [cellsOf y] hT hk hE rfl rfl (by simp [hx]) (by simp [hc.1, hc.2, hs]) hsm hN
theorem ex_buildSlice_fz1a (T e : Nat) (x : Operand) (r re : TRec) (row : List AV) (hx : evA t x = .agg row) (hT : look C.tab T = some r) (hk : r.kind = .slice e) (hE : look C.tab e = some re)
    (hc : row.all cellLike = true ∧ AV.pure.pureL row = true) (hs : row.length = re.size) (hsm : 1 * re.size ≤ 16777216) (hN : d < N) :
    ExOk C.P N ⟨some d, .buildSlice T 1 #[(0, x)], ty, pos, af, gd⟩ t h ⟨[(0, x)].flatMap fun p => opT p.2, [], some d, .sl true [row], [], []⟩ :=
  ex_buildSlice_fz1 T e x r re (.agg row) hx hT hk hE hc hs hsm hN
end ops
end Go.Ab

/- The abstract layer, 10: slices cut; append. -/
set_option linter.unusedSimpArgs false
set_option linter.unusedVariables false
namespace Go.Ab
open Go.RowKit

section ops
variable {C : Cx} {N d : Nat} {ty : TypeId} {pos : String} {af : Array Edge} {gd : Option (Nat × Bool)} {t : Nat → AV} {h : Nat → HB}

theorem run_sliceBound {P : Program} {w : World} {v : Value} {k : IntKind} {n y : Nat} {code : BoundsCode} (hv : v = .int k (n : Int)) (hny : n ≤ y) : (Instr.sliceBound v y code).run P w = .ok n w := by
  subst hv
  have : (0 ≤ (n : Int) ∧ (n : Int) ≤ (y : Int)) = True := by simp; omega
  simp only [Instr.sliceBound, asIntOf, Sem.run_bind, Sem.run_pure, Result.andThen_ok, Sem.run_ite, this, if_true, Int.toNat_natCast]

/-- The operand of a bound: none, or a number. -/
def BoundIs (t : Nat → AV) (o : Option Operand) (dflt n : Nat) : Prop := match o with | none => n = dflt | some o => ∃ k, evA t o = .v (.int k (n : Int))

theorem BoundIs.val {F : Still} {ρ : Places} {a : Act} {o : Operand} {dflt n : Nat} (hb : BoundIs t (some o) dflt n) {rt : List Nat} (hs : ∀ j, j ∈ rt → M F ρ (a.tmps.getD j undef) (t j)) (hx : ∀ j, j ∈ opT o → j ∈ rt) : ∃ k, a.eval o = .int k (n : Int) := by
  obtain ⟨k, hk⟩ := hb
  have := evA_sound (x := o) hs hx
  rw [hk] at this
  exact ⟨k, this.v_inv.1⟩

/-- Rows cut. mx: the third bound, if there is one. -/
theorem ex_slice_sl (T e : Nat) (x : Operand) (lo hi mx : Option Operand) (ex ex' : Bool) (rows : List (List AV)) (a b m : Nat) (r re : TRec) (hx : evA t x = .sl ex rows) (hT : look C.tab T = some r) (he : r.kind = .slice e) (hE : look C.tab e = some re)
    (ha : BoundIs t lo 0 a) (hb : BoundIs t hi rows.length b) (hm : match mx with | none => True | some o => (∃ k, evA t o = .v (.int k (m : Int))) ∧ b ≤ m ∧ m ≤ rows.length ∧ hi.isSome = true) (hab : a ≤ b) (hbl : b ≤ rows.length) (hrk : ∀ row, row ∈ rows → row.length = re.size)
    (hex : ex' = true → match mx with | none => ex = true ∧ b = rows.length | some _ => b = m) (hN : d < N) :
    ExOk C.P N ⟨some d, .slice T x lo hi mx, ty, pos, af, gd⟩ t h ⟨opT x ++ (lo.toList.flatMap opT ++ (hi.toList.flatMap opT ++ mx.toList.flatMap opT)), [], some d, .sl ex' ((rows.take b).drop a), [], []⟩ :=
  ex_pure _ _ rfl hN fun F ρ act w hag hs _ => by
    have h1 := evA_sound (x := x) hs (fun j hj => List.mem_append_left _ hj)
    rw [hx] at h1
    have hu := slice_spec (C.ok T r hT) he
    have hLo : ∀ o, lo = some o → ∃ k, act.eval o = .int k (a : Int) := fun o ho => by subst ho; exact BoundIs.val ha hs (fun j hj => List.mem_append_right _ (List.mem_append_left _ (by simpa using hj)))
    have hHi : ∀ o, hi = some o → ∃ k, act.eval o = .int k (b : Int) := fun o ho => by subst ho; exact BoundIs.val hb hs (fun j hj => List.mem_append_right _ (List.mem_append_right _ (List.mem_append_left _ (by simpa using hj))))
    have hMx : ∀ o, mx = some o → (∃ k, act.eval o = .int k (m : Int)) ∧ b ≤ m ∧ m ≤ rows.length ∧ hi.isSome = true := fun o ho => by
      subst ho
      obtain ⟨⟨k, hk⟩, h2⟩ := hm
      refine ⟨?_, h2⟩
      have := evA_sound (x := o) hs (fun j hj => List.mem_append_right _ (List.mem_append_right _ (List.mem_append_right _ (by simpa using hj))))
      rw [hk] at this
      exact ⟨k, this.v_inv.1⟩
    -- the length, the capacity, the address
    have hv : ∃ (ad : Option Addr) (cap : Nat), act.eval x = .slice ad rows.length cap ∧ rows.length ≤ cap ∧ (ex = true → cap = rows.length) ∧ (ad = none → cap = 0) ∧
        (rows ≠ [] → ∃ bk off c e' fr, ad = some ⟨bk, off, none⟩ ∧ F bk = some (.cells c e' fr) ∧ off + rows.length * re.size ≤ c.size ∧ ∀ (i j : Nat) row x v, rows[i]? = some row → row[j]? = some x → c[off + i * re.size + j]? = some v → M F noPlaces v x) := by
      rcases h1.sl_inv with ⟨h2, ad, cap, hv, h3, h4⟩ | ⟨bk, off, cap, c, e', fr, k, hF, h2, h3, h4, h5, h6, hv⟩
      · subst h2
        exact ⟨ad, cap, hv, Nat.zero_le _, h3, h4, fun hne => absurd rfl hne⟩
      · refine ⟨_, cap, hv, h2, h3, (fun h => by cases h), fun hne => ?_⟩
        have hk : k = re.size := by
          cases rows with
          | nil => exact absurd rfl hne
          | cons row rows => rw [← h5 row (List.mem_cons_self ..)]; exact hrk row (List.mem_cons_self ..)
        subst hk
        exact ⟨bk, off, c, e', fr, rfl, hF, h4, h6⟩
    obtain ⟨ad, cap, hv, hlc, hexc, hadn, hblk⟩ := hv
    let mm := match mx with | none => cap | some _ => m
    have hmm : b ≤ mm := by
      simp only [mm]
      cases mx with
      | none => simp only; omega
      | some o => exact (hMx o rfl).2.1
    have hbounds : (Instr.sliceBounds true rows.length cap (lo.map act.eval) (hi.map act.eval) (mx.map act.eval)).run C.P w = .ok (a, b, mm) w := by
      unfold Instr.sliceBounds
      cases mx with
      | none =>
        cases hi with
        | none =>
          have hb' : b = rows.length := hb
          subst hb'
          cases lo with
          | none => have ha' : a = 0 := ha; subst ha'; simp [mm]
          | some o => obtain ⟨k, hk⟩ := hLo o rfl; simp [mm, run_sliceBound hk hab]
        | some o' =>
          obtain ⟨k', hk'⟩ := hHi o' rfl
          cases lo with
          | none => have ha' : a = 0 := ha; subst ha'; simp [mm, run_sliceBound hk' (show b ≤ cap by omega)]
          | some o => obtain ⟨k, hk⟩ := hLo o rfl; simp [mm, run_sliceBound hk' (show b ≤ cap by omega), run_sliceBound hk hab]
      | some om =>
        obtain ⟨⟨km, hkm⟩, h2, h3, h4⟩ := hMx om rfl
        cases hi with
        | none => cases h4
        | some o' =>
          obtain ⟨k', hk'⟩ := hHi o' rfl
          cases lo with
          | none => have ha' : a = 0 := ha; subst ha'; simp [mm, run_sliceBound hkm (show m ≤ cap by omega), run_sliceBound hk' h2]
          | some o => obtain ⟨k, hk⟩ := hLo o rfl; simp [mm, run_sliceBound hkm (show m ≤ cap by omega), run_sliceBound hk' h2, run_sliceBound hk hab]
    refine ⟨.slice (if mm = a then ad else ad.map (·.add (a * re.size))) (b - a) (mm - a), ?_, ?_⟩
    · simp only [execOp, Instr.sliceAt, Sem.run_bind, run_underlying hu, Result.andThen_ok, Instr.slice, hv, hbounds, run_sizeOf (C.ok e re hE), Sem.run_pure]
    · have hlen : ((rows.take b).drop a).length = b - a := by simp; omega
      by_cases h0 : b - a = 0
      · have hnil : (rows.take b).drop a = [] := List.eq_nil_of_length_eq_zero (by rw [hlen]; exact h0)
        rw [hnil, h0]
        refine .sl0 _ _ _ _ (fun he => ?_) (fun hn => ?_)
        · have := hex he
          simp only [mm]
          cases mx with
          | none => simp only at this ⊢; rw [hexc this.1]; omega
          | some _ => simp only at this ⊢; omega
        · by_cases h2 : mm = a
          · omega
          · rw [if_neg h2] at hn
            have hadn' := hadn (by simpa using hn)
            simp only [mm]
            cases mx with
            | none => simp only; omega
            | some om => have := (hMx om rfl).2.2.1; simp only; omega
      · have hne : rows ≠ [] := by intro e; subst e; simp at hbl; omega
        obtain ⟨bk, off, c, e', fr, had, hF, hsz, hR⟩ := hblk hne
        have hma : ¬ mm = a := by omega
        rw [if_neg hma, had]
        have hadd : (⟨bk, off, none⟩ : Addr).add (a * re.size) = ⟨bk, off + a * re.size, none⟩ := by unfold Addr.add; split <;> simp_all
        have hbm : b * re.size ≤ rows.length * re.size := Nat.mul_le_mul_right _ hbl
        have hsub : a * re.size + (b - a) * re.size = b * re.size := by rw [← Nat.add_mul]; congr 1; omega
        have := M.sl (F := F) ρ bk (off + a * re.size) (mm - a) c e' fr ex' re.size ((rows.take b).drop a) hF (by rw [hlen]; omega) (fun he => by
            have := hex he
            rw [hlen]
            simp only [mm]
            cases mx with
            | none => simp only at this ⊢; rw [hexc this.1]; omega
            | some _ => simp only at this ⊢; omega) (by rw [hlen]; omega) (fun row hrow => hrk row (List.mem_of_mem_take (List.mem_of_mem_drop hrow)))
          (fun i j row y v hi' hj hv' => by
            rw [List.getElem?_drop] at hi'
            have hlt : a + i < b := by
              have := (List.getElem?_eq_some_iff.1 hi').1
              simp at this; omega
            rw [List.getElem?_take, if_pos hlt] at hi'
            exact hR (a + i) j row y v hi' hj (by rw [Nat.add_mul]; rw [← hv']; congr 1; omega))
        rw [hlen] at this
        simpa [hadd] using this

/-- What is appended: so many rows. -/
def Src (P : Program) (F : Still) (ρ : Places) (w : World) (x : Value) (k : Nat) (rows : List (List AV)) (news : List Value) : Prop :=
  (∀ w', w'.heap = w.heap → (Builtin.lenOf x).run P w' = .ok rows.length w' ∧ (Builtin.firstCells k rows.length x).run P w' = .ok news.toArray w') ∧ news.length = rows.length * k ∧ (∀ v, v ∈ news → v.oneCell' = true) ∧ RowsAt F ρ news.toArray k rows

theorem src_block {P : Program} {F : Still} {ρ : Places} {w : World} {k : Nat} {rows : List (List AV)} {b off cap : Nat} {c : Array Value} {e : TypeId} {fr : Nat × Nat} (hb : w.heap[b]? = some (.cells c e fr)) (hs : off + rows.length * k ≤ c.size) (hk : ∀ row, row ∈ rows → row.length = k)
    (hcl : ∀ row, row ∈ rows → row.all cellLike = true) (hR : ∀ (i j : Nat) row x v, rows[i]? = some row → row[j]? = some x → c[off + i * k + j]? = some v → M F ρ v x) :
    Src P F ρ w (.slice (some ⟨b, off, none⟩) rows.length cap) k rows ((c.toList.drop off).take (rows.length * k)) := by
  have hlen : ((c.toList.drop off).take (rows.length * k)).length = rows.length * k := by simp; omega
  have hget : ∀ (i : Nat) v, ((c.toList.drop off).take (rows.length * k))[i]? = some v → c[off + i]? = some v ∧ i < rows.length * k := by
    intro i v hv
    have hi : i < rows.length * k := by rw [← hlen]; exact (List.getElem?_eq_some_iff.1 hv).1
    rw [getElem?_drop_take _ _ _ _ hi] at hv
    exact ⟨by simpa using hv, hi⟩
  refine ⟨fun w' hw' => ⟨rfl, ?_⟩, hlen, fun v hv => ?_, hk, fun i j row x v h1 h2 h3 => ?_⟩
  · have := run_loadCells_list (P := P) w' ⟨b, off, none⟩ ((c.toList.drop off).take (rows.length * k)) (fun i v hi => by
      obtain ⟨h1, _⟩ := hget i v hi
      have : (⟨b, off, none⟩ : Addr).add i = ⟨b, off + i, none⟩ := by unfold Addr.add; split <;> simp_all
      rw [this]
      simp [World.cell?, hw', hb, h1])
    rw [hlen] at this
    simpa [Builtin.firstCells] using this
  · obtain ⟨p, hp⟩ := List.mem_iff_getElem?.1 hv
    obtain ⟨h1, h2⟩ := hget p v hp
    have hk0 : 0 < k := by rcases Nat.eq_zero_or_pos k with h | h; · subst h; simp at h2
                           · exact h
    have hi : p / k < rows.length := (Nat.div_lt_iff_lt_mul hk0).2 h2
    have hrow := List.getElem?_eq_getElem hi
    have hj : p % k < (rows[p / k]).length := by rw [hk _ (List.mem_of_getElem? hrow)]; exact Nat.mod_lt _ hk0
    have hx := List.getElem?_eq_getElem hj
    have hm := hR (p / k) (p % k) _ _ v hrow hx (by rw [Nat.add_assoc, Nat.div_add_mod']; exact h1)
    exact hm.oneCell (List.all_eq_true.1 (hcl _ (List.mem_of_getElem? hrow)) _ (List.mem_of_getElem? hx))
  · have h3' : ((c.toList.drop off).take (rows.length * k))[i * k + j]? = some v := by simpa using h3
    obtain ⟨h4, _⟩ := hget _ v h3'
    exact hR i j row x v h1 h2 (by rw [Nat.add_assoc]; exact h4)

theorem src_empty {P : Program} {F : Still} {ρ : Places} {w : World} {k cap : Nat} {a : Option Addr} : Src P F ρ w (.slice a 0 cap) k [] [] := by
  refine ⟨fun w' _ => ⟨rfl, ?_⟩, by simp, (fun v hv => by cases hv), (fun row hr => by cases hr), fun i j row x v h1 => by simp at h1⟩
  cases a with
  | none => rfl
  | some a => simp [Builtin.firstCells, loadCells, loadCellsFrom]

/-- The source of an append, out of a state. -/
def SrcA (t : Nat → AV) (h : Nat → HB) (x : Operand) (k : Nat) (rows : List (List AV)) (rh : List Nat) : Prop :=
  (∀ row, row ∈ rows → row.length = k) ∧ (∀ row, row ∈ rows → row.all cellLike = true) ∧
  ((∃ ex, evA t x = .sl ex rows) ∨ ∃ n off len ex rs, evA t x = .os n off len ∧ n ∈ rh ∧ h n = .own ex k rs ∧ off + len ≤ rs.length ∧ rows = (rs.drop off).take len)

theorem SrcA.src {P : Program} {F : Still} {ρ : Places} {w : World} {x : Operand} {k : Nat} {rows : List (List AV)} {rh : List Nat} {a : Act} (hsrc : SrcA t h x k rows rh) (hag : ∀ b o, F b = some o → w.heap[b]? = some o) (hm : M F ρ (a.eval x) (evA t x)) (hown : ∀ n, n ∈ rh → OwnAt F ρ w n (h n)) :
    ∃ news, Src P F ρ w (a.eval x) k rows news := by
  obtain ⟨hk, hcl, hsrc⟩ := hsrc
  rcases hsrc with ⟨ex, he⟩ | ⟨n, off, len, ex, rs, he, hn, hh, hl, hrows⟩
  · rw [he] at hm
    rcases hm.sl_inv with ⟨h2, ad, cap, hv, _⟩ | ⟨b, o, cap, c, e', fr, kk, hb, h2, _, hsz, hkk, hR, hv⟩
    · subst h2; rw [hv]; exact ⟨_, src_empty⟩
    · by_cases hne : rows = []
      · subst hne; rw [hv]; exact ⟨_, src_empty⟩
      · have : kk = k := by
          cases rows with
          | nil => exact absurd rfl hne
          | cons row rows => rw [← hkk row (List.mem_cons_self ..)]; exact hk row (List.mem_cons_self ..)
        subst this
        rw [hv]
        exact ⟨_, src_block (hag _ _ hb) hsz hk hcl (fun i j row x v h1 h2 h3 => (hR i j row x v h1 h2 h3).mono (Still.le_refl F) (noPlaces_le ρ))⟩
  · have ho := hown n hn
    rw [hh] at ho
    rw [he] at hm
    have hlen : rows.length = len := by rw [hrows]; simp; omega
    rcases hm.os_inv with ⟨_, rfl, rfl, ad, hv⟩ | ⟨b, k', cap, ad, hρ, hv, hcap, ha⟩
    · have : rows = [] := List.eq_nil_of_length_eq_zero hlen
      subst this; rw [hv]; exact ⟨_, src_empty⟩
    · by_cases h0 : len = 0
      · subst h0
        have : rows = [] := List.eq_nil_of_length_eq_zero hlen
        subst this; rw [hv]; exact ⟨_, src_empty⟩
      · obtain ⟨rfl, c, e, hb, hsz, hle, _, hR⟩ := own_block ho hρ
        have ha' := ha (by omega)
        subst ha'
        rw [hv, ← hlen]
        refine ⟨_, src_block hb ?_ hk hcl fun i j row x v h1 h2 h3 => ?_⟩
        · rw [hsz, hlen, ← Nat.add_mul]; exact Nat.mul_le_mul_right _ hcap
        · rw [hrows] at h1
          have hi : i < len := by have := (List.getElem?_eq_some_iff.1 h1).1; simp at this; omega
          rw [getElem?_drop_take _ _ _ _ hi] at h1
          exact hR.2 (off + i) j row x v h1 h2 (by rw [Nat.add_mul]; exact h3)

/-- The growing arm of append. -/
theorem run_append_more {P : Program} {w : World} (T ty e : TypeId) (i : TypeInfo) (z : Value) (ht : P.underlying T = some (.slice e)) (hi : P.info? e = some i) (hz : i.zero = some z) (base : Option Addr) (n cap m : Nat) (x : Value) (olds news : List Value)
    (hx : ∀ w', w'.heap = w.heap → (Builtin.lenOf x).run P w' = .ok m w' ∧ (Builtin.firstCells i.size m x).run P w' = .ok news.toArray w') (ho : ∀ w', w'.heap = w.heap → (Builtin.firstCells i.size n (.slice base n cap)).run P w' = .ok olds.toArray w')
    (hg : cap < n + m) (h63 : n + m ≤ maxLen) (hb : (n + m) * i.bytes ≤ 140737488355328) :
    (Builtin.append_ #[T, T] ty #[.slice base n cap, x]).run P w = .ok (.slice (some ⟨w.heap.size, 0, none⟩) (n + m) (grownCap w (n + m) cap e))
      (w.drew.alloc (.cells (olds.toArray ++ news.toArray ++ Builtin.zeroCells z.cells (grownCap w (n + m) cap e - (n + m))) e)) := by
  have hn : ¬ (n + m ≤ cap) := by omega
  have h63' : ¬ (9223372036854775807 < ((n : Int) + (m : Int))) := by simp only [maxLen] at h63; omega
  have h48' : ¬ (281474976710656 < Builtin.nextslicecap (n + m) cap * i.bytes) := by have := growslice_fits (old := cap) (by omega) hb; omega
  have e1 := hx w rfl
  have e2 := hx w.drew rfl
  have e3 := ho w.drew rfl
  simp [Builtin.append_, run_underlying ht, sizeOf, typeInfo, zeroValue, hi, hz, e1.1, hn, h63', h48', Question.forced, e2.2, e3, newRow, grownCap]
  congr 2
  apply Array.ext'
  simp [List.append_assoc]

theorem RowsAt.app {F : Still} {ρ : Places} {k : Nat} {olds news rest : List Value} {rows rows' : List (List AV)} (h1 : RowsAt F ρ olds.toArray k rows) (h2 : RowsAt F ρ news.toArray k rows') (hl : olds.length = rows.length * k) (hl' : news.length = rows'.length * k) :
    RowsAt F ρ (olds ++ news ++ rest).toArray k (rows ++ rows') := by
  refine ⟨fun row hr => ?_, fun i j row x v hi hj hv => ?_⟩
  · rcases List.mem_append.1 hr with hr | hr
    · exact h1.1 row hr
    · exact h2.1 row hr
  · simp only [List.getElem?_toArray] at hv
    rw [List.getElem?_append] at hi
    have hjk : j < k := by
      have hlen : row.length = k := by
        split at hi
        · exact h1.1 row (List.mem_of_getElem? hi)
        · exact h2.1 row (List.mem_of_getElem? hi)
      rw [← hlen]; exact (List.getElem?_eq_some_iff.1 hj).1
    split at hi
    · rename_i hlt
      have hb := mul_row (k := k) hlt (Nat.le_refl _)
      rw [List.append_assoc, List.getElem?_append_left (by omega)] at hv
      exact h1.2 i j row x v hi hj (by simpa using hv)
    · rename_i hge
      have hlt : i - rows.length < rows'.length := (List.getElem?_eq_some_iff.1 hi).1
      have hb := mul_row (k := k) hlt (Nat.le_refl _)
      have hsub : i * k = rows.length * k + (i - rows.length) * k := by rw [← Nat.add_mul]; congr 1; omega
      rw [List.append_assoc, List.getElem?_append_right (by omega), List.getElem?_append_left (by omega)] at hv
      refine h2.2 (i - rows.length) j row x v hi hj ?_
      simp only [List.getElem?_toArray]
      rw [← hv]; congr 1; omega

theorem grown_size {z : Value} {k : Nat} {olds news : List Value} {n m cap : Nat} (hz : z.cells.size = k) (hl : olds.length = n * k) (hl' : news.length = m * k) (hc : n + m ≤ cap) : (olds.toArray ++ news.toArray ++ Builtin.zeroCells z.cells (cap - (n + m))).size = cap * k := by
  simp only [Array.size_append, List.size_toArray, Builtin.zeroCells, Array.size_map, Array.size_range, hz, hl, hl', ← Nat.add_mul]
  congr 1; omega

theorem RowsAt.grown {F : Still} {ρ : Places} {k : Nat} {olds news : List Value} {z : Array Value} {rows rows' : List (List AV)} (h1 : RowsAt F ρ olds.toArray k rows) (h2 : RowsAt F ρ news.toArray k rows') (hl : olds.length = rows.length * k) (hl' : news.length = rows'.length * k) :
    RowsAt F ρ (olds.toArray ++ news.toArray ++ z) k (rows ++ rows') := by
  have e : (olds.toArray ++ news.toArray ++ z) = (olds ++ news ++ z.toList).toArray := by apply Array.ext'; simp
  rw [e]
  exact RowsAt.app (rest := z.toList) h1 h2 hl hl'

/-- Append to a slice without memory of its own. -/
theorem ex_append_nil (T ty' e : Nat) (x y : Operand) (m : Nat) (rows : List (List AV)) (rh : List Nat) (r re : TRec) (hx : evA t x = .sl true []) (hT : look C.tab T = some r) (he : r.kind = .slice e) (hE : look C.tab e = some re) (hz : re.zero.length = re.size)
    (hsrc : SrcA t h y re.size rows rh) (hsz : rows.length * re.bytes ≤ 140737488355328) (hlen : rows.length ≤ 9223372036854775807) (hN : d < N) :
    ExOk C.P N ⟨some d, .call ⟨.builtin .append, #[x, y], #[T, T]⟩, ty', pos, af, gd⟩ t h ⟨opT x ++ opT y, rh, some d, .os m 0 rows.length, [(m, .own false re.size rows)], [m]⟩ := by
  refine ex_write (ks := []) _ _ m false re.size rows [m] (fun d' hd' => by injection hd' with e; exact e ▸ hN) (.inl rfl) (by simp) ?_
  intro B A h' F ρ a w hp hm hh hfr
  have h1 := evA_sound (x := x) hm (fun j hj => List.mem_append_left _ hj)
  have h2 := evA_sound (x := y) hm (fun j hj => List.mem_append_right _ hj)
  rw [hx] at h1
  have hρ : ρ m = none := hfr m (by simp)
  have hu := slice_spec (C.ok T r hT) he
  obtain ⟨dd, inf, z, _, hi, hz0, _, _, hsize, hbytes, hzc⟩ := trec_spec (C.ok e re hE)
  obtain ⟨news, hnews, hnl, hn1, hnR⟩ := hsrc.src (P := C.P) hp.agree h2 (fun n hn => (hh n hn) ▸ hp.own n)
  have hle : ρ.le (fun n => if n = m then some none else ρ n) := fun n c hn => by
    by_cases hnm : n = m
    · subst hnm; rw [hρ] at hn; cases hn
    · simpa [hnm] using hn
  obtain ⟨ad, hv⟩ : ∃ ad, a.eval x = .slice ad 0 0 := by
    rcases h1.sl_inv with ⟨_, ad, cap, hv, hc, _⟩ | ⟨b, o, cap, c, e', fr, kk, hb, h3, hc, _, _, _, hv⟩
    · have hc0 : cap = 0 := hc rfl
      subst hc0; exact ⟨ad, hv⟩
    · have hc0 : cap = 0 := hc rfl
      subst hc0; exact ⟨_, hv⟩
  have hfc : ∀ w' : World, (Builtin.firstCells inf.size 0 (.slice ad 0 0)).run C.P w' = .ok #[] w' := fun w' => by cases ad <;> simp [Builtin.firstCells, loadCells, loadCellsFrom]
  have hex : ∀ (v : Value) (w2 : World), (Builtin.append_ #[T, T] ty' #[.slice ad 0 0, a.eval y]).run C.P w = .ok v w2 → (execOp a.eval ⟨some d, .call ⟨.builtin .append, #[x, y], #[T, T]⟩, ty', pos, af, gd⟩).run C.P w = .ok (.value v) w2 := fun v w2 hr => by
    simp [execOp, resolve, invoke, builtin, hv, hr]
  by_cases h0 : rows.length = 0
  · have hr : rows = [] := List.eq_nil_of_length_eq_zero h0
    subst hr
    have e1 := hnews w rfl
    have hnn : news = [] := List.eq_nil_of_length_eq_zero (by simpa using hnl)
    subst hnn
    simp only [List.length_nil] at e1
    have hrun : (Builtin.append_ #[T, T] ty' #[.slice ad 0 0, a.eval y]).run C.P w = .ok (.slice ad 0 0) w := by
      have e2 := e1.2
      rw [← hsize] at e2
      cases ad <;> simp [Builtin.append_, run_underlying hu, sizeOf, typeInfo, hi, e1.1, e2, storeCells]
    exact ⟨.value (.slice ad 0 0), w, none, none, hex _ _ hrun, .inr ⟨_, rfl, .osn _ m _ (by simp)⟩, .inl hρ, hp.kept, (fun b hb => by cases hb), fun _ _ _ => rfl, (fun b c hb => by cases hb), .inl ⟨by simp, rfl⟩, (fun h => by cases h)⟩
  · have hr := run_append_more (P := C.P) (w := w) T ty' e inf z hu hi hz0 ad 0 0 rows.length (a.eval y) [] news (fun w' hw' => by rw [hsize]; exact hnews w' hw') (fun w' _ => hfc w') (by omega) (by unfold maxLen; omega) (by rw [hbytes]; simpa using hsz)
    simp only [Nat.zero_add] at hr
    have hge := grownCap_ge w rows.length 0 e
    refine ⟨.value _, _, some (w.heap.size, re.size, grownCap w rows.length 0 e), none, hex _ _ hr, .inr ⟨_, rfl, ?_⟩, .inl hρ, hp.kept.drew.alloc _, (fun b hb => by cases hb), fun b hb _ => heap_alloc_old w.drew _ b hb, (fun b c hb => by simp only [Option.some.injEq, Prod.mk.injEq] at hb; exact .inr (by omega)), .inr ⟨w.heap.size, _, _, e, by simp, heap_alloc_new w.drew _, ?_, hge, (fun h => by cases h), ?_⟩, (fun h => by cases h)⟩
    · have := M.os (F := F) (fun n => if n = m then some (some (w.heap.size, re.size, grownCap w rows.length 0 e)) else ρ n) m w.heap.size re.size (grownCap w rows.length 0 e) 0 rows.length ⟨w.heap.size, 0, none⟩ (by simp) (by omega) (fun _ => by simp)
      simpa using this
    · have := grown_size (z := z) (k := re.size) (olds := []) (news := news) (n := 0) (m := rows.length) (cap := grownCap w rows.length 0 e) (by rw [hzc]; simpa using hz) (by simp) hnl (by omega)
      simpa using this
    · have hle2 : ρ.le (fun n => if n = m then some (some (w.heap.size, re.size, grownCap w rows.length 0 e)) else ρ n) := fun n c hn => by
        by_cases hnm : n = m
        · subst hnm; rw [hρ] at hn; cases hn
        · simpa [hnm] using hn
      have := RowsAt.grown (F := F) (ρ := ρ) (k := re.size) (olds := []) (news := news) (z := Builtin.zeroCells z.cells (grownCap w rows.length 0 e - rows.length)) (rows := []) (rows' := rows) ⟨(fun row hr => by cases hr), fun i j row x v h1 => by simp at h1⟩ hnR (by simp) hnl
      exact (by simpa using this : RowsAt F ρ _ re.size rows).mono (Still.le_refl F) hle2

/-- Append to a slice of our own: its first len rows, and the new ones. -/
theorem ex_append_own (T ty' e : Nat) (x y : Operand) (m n len : Nat) (ex : Bool) (rs rows : List (List AV)) (rh : List Nat) (r re : TRec) (hx : evA t x = .os n 0 len) (hn : h n = .own ex re.size rs) (hl : len ≤ rs.length) (hT : look C.tab T = some r) (he : r.kind = .slice e) (hE : look C.tab e = some re)
    (hz : re.zero.length = re.size) (hsrc : SrcA t h y re.size rows rh) (hsz : (len + rows.length) * re.bytes ≤ 140737488355328) (hlen : len + rows.length ≤ 9223372036854775807) (hmn : m ≠ n) (hN : d < N) :
    ExOk C.P N ⟨some d, .call ⟨.builtin .append, #[x, y], #[T, T]⟩, ty', pos, af, gd⟩ t h ⟨opT x ++ opT y, n :: rh, some d, .os m 0 (len + rows.length), [(m, .own false re.size (rs.take len ++ rows)), (n, .dead)], [m]⟩ := by
  refine ex_write (ks := [n]) _ _ m false re.size _ [m] (fun d' hd' => by injection hd' with e; exact e ▸ hN) (.inl rfl) (by simp) ?_
  intro B A h' F ρ a w hp hm hh hfr
  have h1 := evA_sound (x := x) hm (fun j hj => List.mem_append_left _ hj)
  have h2 := evA_sound (x := y) hm (fun j hj => List.mem_append_right _ hj)
  rw [hx] at h1
  have hρ : ρ m = none := hfr m (by simp)
  have hu := slice_spec (C.ok T r hT) he
  obtain ⟨dd, inf, z, _, hi, hz0, _, _, hsize, hbytes, hzc⟩ := trec_spec (C.ok e re hE)
  obtain ⟨news, hnews, hnl, hn1, hnR⟩ := hsrc.src (P := C.P) hp.agree h2 (fun n' hn' => (hh n' (List.mem_cons_of_mem _ hn')) ▸ hp.own n')
  have hn' : h' n = .own ex re.size rs := (hh n (List.mem_cons_self ..)).trans hn
  have ho := hp.own n
  rw [hn'] at ho
  have hex : ∀ (ad : Option Addr) (cap : Nat) (v : Value) (w2 : World), a.eval x = .slice ad len cap → (Builtin.append_ #[T, T] ty' #[.slice ad len cap, a.eval y]).run C.P w = .ok v w2 → (execOp a.eval ⟨some d, .call ⟨.builtin .append, #[x, y], #[T, T]⟩, ty', pos, af, gd⟩).run C.P w = .ok (.value v) w2 := fun ad cap v w2 hv hr => by
    simp [execOp, resolve, invoke, builtin, hv, hr]
  have hlt : (rs.take len).length = len := by simp; omega
  -- the arm that grows
  have more : ∀ (ad : Option Addr) (cap : Nat) (olds : List Value), a.eval x = .slice ad len cap → (∀ w', w'.heap = w.heap → (Builtin.firstCells inf.size len (.slice ad len cap)).run C.P w' = .ok olds.toArray w') → olds.length = len * re.size → RowsAt F ρ olds.toArray re.size (rs.take len) → cap < len + rows.length →
      ∃ v w' pl tb, (execOp a.eval ⟨some d, .call ⟨.builtin .append, #[x, y], #[T, T]⟩, ty', pos, af, gd⟩).run C.P w = .ok v w' ∧ (v = .skip ∧ (⟨some d, .call ⟨.builtin .append, #[x, y], #[T, T]⟩, ty', pos, af, gd⟩ : Oper).dst = none ∨ ∃ u, v = .value u ∧ M F (fun n => if n = m then some pl else ρ n) u (.os m 0 (len + rows.length))) ∧
        (ρ m = none ∨ ρ m = some pl) ∧ B.kept w' ∧ (∀ b, tb = some b → ∃ n0 c, (n0 = m ∨ [n][0]? = some n0) ∧ (h' n0).isOwn = true ∧ ρ n0 = some (some (b, c))) ∧
        (∀ b, b < w.heap.size → tb ≠ some b → w'.heap[b]? = w.heap[b]?) ∧ (∀ b c, pl = some (b, c) → tb = some b ∨ w.heap.size ≤ b) ∧
        OwnAt F (fun n => if n = m then some pl else ρ n) w' m (.own false re.size (rs.take len ++ rows)) ∧ ([m] = [] → ρ m ≠ none) := by
    intro ad cap olds hv hol hll holR hg
    have hr := run_append_more (P := C.P) (w := w) T ty' e inf z hu hi hz0 ad len cap rows.length (a.eval y) olds news (fun w' hw' => by rw [hsize]; exact hnews w' hw') hol hg (by unfold maxLen; omega) (by rw [hbytes]; exact hsz)
    have hge := grownCap_ge w (len + rows.length) cap e
    refine ⟨.value _, _, some (w.heap.size, re.size, grownCap w (len + rows.length) cap e), none, hex _ _ _ _ hv hr, .inr ⟨_, rfl, ?_⟩, .inl hρ, hp.kept.drew.alloc _, (fun b hb => by cases hb), fun b hb _ => heap_alloc_old w.drew _ b hb, (fun b c hb => by simp only [Option.some.injEq, Prod.mk.injEq] at hb; exact .inr (by omega)), .inr ⟨w.heap.size, grownCap w (len + rows.length) cap e, _, e, by simp, heap_alloc_new w.drew _, ?_, by rw [List.length_append, hlt]; exact hge, (fun h => by cases h), ?_⟩, (fun h => by cases h)⟩
    · have := M.os (F := F) (fun n => if n = m then some (some (w.heap.size, re.size, grownCap w (len + rows.length) cap e)) else ρ n) m w.heap.size re.size (grownCap w (len + rows.length) cap e) 0 (len + rows.length) ⟨w.heap.size, 0, none⟩ (by simp) (by omega) (fun _ => by simp)
      simpa using this
    · exact grown_size (by rw [hzc]; simpa using hz) hll hnl hge
    · have hle2 : ρ.le (fun n => if n = m then some (some (w.heap.size, re.size, grownCap w (len + rows.length) cap e)) else ρ n) := fun n c hn => by
        by_cases hnm : n = m
        · subst hnm; rw [hρ] at hn; cases hn
        · simpa [hnm] using hn
      exact (RowsAt.grown holR hnR (by rw [hlt]; exact hll) hnl).mono (Still.le_refl F) hle2
  rcases h1.os_inv with ⟨hρn, _, rfl, ad, hv⟩ | ⟨b, k', cap, ad, hρn, hv, hcap, ha⟩
  · -- nowhere
    have hrs : rs.take 0 = [] := rfl
    by_cases h0 : rows.length = 0
    · have hr : rows = [] := List.eq_nil_of_length_eq_zero h0
      subst hr
      have e1 := hnews w rfl
      have hnn : news = [] := List.eq_nil_of_length_eq_zero (by simpa using hnl)
      subst hnn
      simp only [List.length_nil] at e1
      have hrun : (Builtin.append_ #[T, T] ty' #[.slice ad 0 0, a.eval y]).run C.P w = .ok (.slice ad 0 0) w := by
        have e2 := e1.2
        rw [← hsize] at e2
        cases ad <;> simp [Builtin.append_, run_underlying hu, sizeOf, typeInfo, hi, e1.1, e2, storeCells]
      exact ⟨.value (.slice ad 0 0), w, none, none, hex _ _ _ _ hv hrun, .inr ⟨_, rfl, .osn _ m _ (by simp)⟩, .inl hρ, hp.kept, (fun b hb => by cases hb), fun _ _ _ => rfl, (fun b c hb => by cases hb), .inl ⟨by simp, rfl⟩, (fun h => by cases h)⟩
    · exact more ad 0 [] hv (fun w' _ => by cases ad <;> simp [Builtin.firstCells, loadCells, loadCellsFrom]) (by simp) ⟨(fun row hr => by rw [hrs] at hr; cases hr), fun i j row x v h1 => by simp [hrs] at h1⟩ (by omega)
  · obtain ⟨rfl, c, e0, hb, hcs, hle, _, hR⟩ := own_block ho hρn
    rw [Nat.sub_zero] at hv
    have hmul : len * re.size ≤ cap * re.size := Nat.mul_le_mul_right _ (by omega)
    have hcell : (∀ row, row ∈ rs.take len → row.length = re.size) := fun row hr => hR.1 row (List.mem_of_mem_take hr)
    have hRt : ∀ (i j : Nat) row x v, (rs.take len)[i]? = some row → row[j]? = some x → c[i * re.size + j]? = some v → M F ρ v x := fun i j row x v h3 h4 h5 => by
      have hi : i < len := by have := (List.getElem?_eq_some_iff.1 h3).1; omega
      rw [List.getElem?_take, if_pos hi] at h3
      exact hR.2 i j row x v h3 h4 h5
    by_cases hroom : len + rows.length ≤ cap
    · -- there is room
      have hfit : len * re.size + news.length ≤ c.size := by rw [hnl, hcs, ← Nat.add_mul]; exact Nat.mul_le_mul_right _ hroom
      have e1 := hnews w rfl
      have hblk := (hp.new n b _ (by rw [hn']; rfl) hρn).2
      let c' : Array Value := (c.toList.take (len * re.size) ++ news ++ c.toList.drop (len * re.size + news.length)).toArray
      have hbase : 0 < cap → ad = ⟨b, 0, none⟩ := fun h => by have := ha h; simpa using this
      have hst : ∃ w2, (Builtin.append_ #[T, T] ty' #[.slice (some ad) len cap, a.eval y]).run C.P w = .ok (.slice (some ad) (len + rows.length) cap) w2 ∧ (∀ b', b' ≠ b → w2.heap[b']? = w.heap[b']?) ∧ w2.heap[b]? = some (.cells c' e0 (0, 0)) ∧ B.kept w2 := by
        by_cases hcap0 : cap = 0
        · -- nothing at all
          subst hcap0
          have hr0 : rows = [] := List.eq_nil_of_length_eq_zero (by omega)
          have hl0 : len = 0 := by omega
          have hnn : news = [] := List.eq_nil_of_length_eq_zero (by rw [hnl, hr0]; simp)
          refine ⟨w, ?_, fun _ _ => rfl, ?_, hp.kept⟩
          · have e2 := e1.2
            rw [← hsize] at e2
            rw [hr0] at e1 e2
            simp only [List.length_nil] at e1 e2
            rw [hnn] at e2
            rw [hl0, hr0]
            simp [Builtin.append_, run_underlying hu, sizeOf, typeInfo, hi, e1.1, e2, storeCells]
          · rw [hb]
            have : c' = c := by simp [c', hnn, hl0]
            rw [this]
        · have had := hbase (by omega)
          subst had
          have hs := run_storeCells_at C.P b (len * re.size) e0 news 0 c w hb (by omega) hn1
          simp only [Nat.add_zero] at hs
          refine ⟨w.setRow b c', ?_, fun b' hb' => setRow_other _ _ _ _ hb', setRow_heap _ _ _ _ _ _ hb, ?_⟩
          · have e2 := e1.2
            rw [← hsize] at e2
            have hadd : (⟨b, 0, none⟩ : Addr).add (len * inf.size) = ⟨b, len * inf.size, none⟩ := by unfold Addr.add; split <;> simp_all
            have hs2 : (storeCells ⟨b, len * inf.size, none⟩ news).run C.P w = .ok () (w.setRow b c') := by rw [hsize]; exact hs
            simp [Builtin.append_, run_underlying hu, sizeOf, typeInfo, hi, e1.1, hroom, e2, hadd, hs2]
          · refine ⟨hp.kept.os, hp.kept.tape, hp.kept.output, by simpa [World.setRow] using hp.kept.size, fun b' hb' ho' => ?_⟩
            rw [setRow_other _ _ _ _ (by rintro rfl; rcases hblk with hblk | hblk; · omega
                                         · exact ho' hblk)]
            exact hp.kept.block b' hb' ho'
      obtain ⟨w2, s1, s2, s3, s4⟩ := hst
      refine ⟨.value _, w2, some (b, re.size, cap), some b, hex _ _ _ _ hv s1, .inr ⟨_, rfl, ?_⟩, .inl hρ, s4, (fun b' hb' => by simp only [Option.some.injEq] at hb'; subst hb'; exact ⟨n, _, .inr rfl, by rw [hn']; rfl, hρn⟩), (fun b' _ hb' => s2 b' (fun e => hb' (by rw [e]))), (fun b' c'' he => by simp only [Option.some.injEq, Prod.mk.injEq] at he; exact .inl (by rw [he.1])),
        .inr ⟨b, cap, c', e0, by simp, s3, ?_, by rw [List.length_append, hlt]; exact hroom, (fun h => by cases h), ?_⟩, (fun h => by cases h)⟩
      · have := M.os (F := F) (fun n => if n = m then some (some (b, re.size, cap)) else ρ n) m b re.size cap 0 (len + rows.length) ad (by simp) (by omega) (fun h => by simpa using ha h)
        simpa using this
      · simp only [c', List.size_toArray, List.length_append, List.length_take, List.length_drop, Array.length_toList]; omega
      · have hle2 : ρ.le (fun n => if n = m then some (some (b, re.size, cap)) else ρ n) := fun n c hn => by
          by_cases hnm : n = m
          · subst hnm; rw [hρ] at hn; cases hn
          · simpa [hnm] using hn
        have hlo : (c.toList.take (len * re.size)).length = (rs.take len).length * re.size := by rw [hlt]; simp; omega
        refine (RowsAt.app (olds := c.toList.take (len * re.size)) (news := news) (rest := c.toList.drop (len * re.size + news.length)) ⟨hcell, fun i j row x v h3 h4 h5 => ?_⟩ hnR hlo hnl).mono (Still.le_refl F) hle2
        simp only [List.getElem?_toArray, List.getElem?_take] at h5
        split at h5
        · exact hRt i j row x v h3 h4 (by simpa using h5)
        · cases h5
    · -- a new block
      refine more (some ad) cap (c.toList.take (len * re.size)) hv (fun w' hw' => ?_) (by simp; omega) ⟨hcell, fun i j row x v h3 h4 h5 => ?_⟩ (by omega)
      · by_cases hl0 : len = 0
        · subst hl0; simp [Builtin.firstCells, loadCells, loadCellsFrom]
        · have had := ha (by omega)
          rw [Nat.zero_mul] at had
          subst had
          have hlo : (c.toList.take (len * re.size)).length = len * re.size := by simp; omega
          have := run_loadCells_list (P := C.P) w' ⟨b, 0, none⟩ (c.toList.take (len * re.size)) (fun i v hiv => by
            rw [List.getElem?_take] at hiv
            split at hiv
            · have : (⟨b, 0, none⟩ : Addr).add i = ⟨b, i, none⟩ := by unfold Addr.add; split <;> simp_all
              rw [this]
              simp [World.cell?, hw', hb, (by simpa using hiv : c[i]? = some v)]
            · cases hiv)
          rw [hlo] at this
          rw [hsize]
          exact this
      · simp only [List.getElem?_toArray, List.getElem?_take] at h5
        split at h5
        · exact hRt i j row x v h3 h4 (by simpa using h5)
        · cases h5
end ops
end Go.Ab

/- The abstract layer, 10b: memory of our own: cut; appended to in place; cleared; copied into. -/
set_option linter.unusedSimpArgs false
set_option linter.unusedVariables false
namespace Go.Ab
open Go.RowKit

theorem RowsAt.put {F : Still} {ρ : Places} {c : Array Value} {k p : Nat} {rows rows' : List (List AV)} {news : List Value} (hR : RowsAt F ρ c k rows) (hp : p + rows'.length ≤ rows.length) (hcs : rows.length * k ≤ c.size) (hnl : news.length = rows'.length * k) (hnR : RowsAt F ρ news.toArray k rows') :
    RowsAt F ρ (c.toList.take (p * k) ++ news ++ c.toList.drop (p * k + news.length)).toArray k (rows.take p ++ rows' ++ rows.drop (p + rows'.length)) := by
  refine ⟨fun row hr => ?_, fun i j row x v hi hj hv => ?_⟩
  · rcases List.mem_append.1 hr with hr | hr
    · rcases List.mem_append.1 hr with hr | hr
      · exact hR.1 row (List.mem_of_mem_take hr)
      · exact hnR.1 row hr
    · exact hR.1 row (List.mem_of_mem_drop hr)
  · have hpk : p * k + news.length ≤ c.size := by
      rw [hnl, ← Nat.add_mul]; exact Nat.le_trans (Nat.mul_le_mul_right _ hp) hcs
    have hlt : (c.toList.take (p * k)).length = p * k := by simp; omega
    have hltr : (rows.take p).length = p := by simp; omega
    have hjk : j < k := by
      have h1 := (List.getElem?_eq_some_iff.1 hj).1
      have h2 : row.length = k := by
        have hr := List.mem_of_getElem? hi
        rcases List.mem_append.1 hr with hr | hr
        · rcases List.mem_append.1 hr with hr | hr
          · exact hR.1 row (List.mem_of_mem_take hr)
          · exact hnR.1 row hr
        · exact hR.1 row (List.mem_of_mem_drop hr)
      omega
    simp only [List.getElem?_toArray] at hv
    by_cases h1 : i < p
    · have hik : i * k + j < p * k := by
        have : (i + 1) * k ≤ p * k := Nat.mul_le_mul_right _ h1
        rw [Nat.succ_mul] at this; omega
      rw [List.append_assoc, List.getElem?_append_left (by omega), List.getElem?_take, if_pos h1] at hi
      rw [List.append_assoc, List.getElem?_append_left (by omega), List.getElem?_take, if_pos hik] at hv
      exact hR.2 i j row x v hi hj (by simpa using hv)
    · by_cases h2 : i < p + rows'.length
      · rw [List.append_assoc, List.getElem?_append_right (by omega), hltr, List.getElem?_append_left (by omega)] at hi
        have hik : i * k = p * k + (i - p) * k := by rw [← Nat.add_mul]; congr 1; omega
        have hik2 : (i - p) * k + j < news.length := by
          have : (i - p + 1) * k ≤ rows'.length * k := Nat.mul_le_mul_right _ (by omega)
          rw [Nat.succ_mul] at this; omega
        rw [List.append_assoc, List.getElem?_append_right (by omega), hlt, List.getElem?_append_left (by omega)] at hv
        refine hnR.2 (i - p) j row x v hi hj ?_
        simp only [List.getElem?_toArray]
        rw [← hv]; congr 1; omega
      · rw [List.append_assoc, List.getElem?_append_right (by omega), hltr, List.getElem?_append_right (by omega), List.getElem?_drop] at hi
        have hik : i * k = (p + rows'.length) * k + (i - (p + rows'.length)) * k := by rw [← Nat.add_mul]; congr 1; omega
        rw [Nat.add_mul] at hik
        rw [List.append_assoc, List.getElem?_append_right (by omega), hlt, List.getElem?_append_right (by omega), List.getElem?_drop] at hv
        refine hR.2 i j row x v ?_ hj ?_
        · rw [← hi]; congr 1; omega
        · have : c.toList[i * k + j]? = some v := by rw [← hv]; congr 1; omega
          simpa using this

section ops
variable {P : Program} {C : Cx} {N d : Nat} {ty : TypeId} {pos : String} {af : Array Edge} {gd : Option (Nat × Bool)} {t : Nat → AV} {h : Nat → HB}

/-- Rows of our own memory are written: news at the rows from p on. -/
theorem ex_putrows {o : Oper} {x : AV} (rt rh : List Nat) (n : Nat) (ex : Bool) (k p : Nat) (rows rows' : List (List AV)) (hN : ∀ d, o.dst = some d → d < N) (hn : h n = .own ex k rows) (hnr : n ∈ rh) (hp : p + rows'.length ≤ rows.length)
    (hrun : ∀ B A h' F ρ (a : Act) (w : World), Hp B A h' F ρ w → (∀ j, j ∈ rt → M F ρ (a.tmps.getD j undef) (t j)) → (∀ n, n ∈ rh → h' n = h n) → 
      ∃ (news : List Value), news.length = rows'.length * k ∧ (∀ v, v ∈ news → v.oneCell' = true) ∧ RowsAt F ρ news.toArray k rows' ∧
        ((ρ n = some none ∧ rows' = [] ∧ ∃ v, (execOp a.eval o).run C.P w = .ok v w ∧ (v = .skip ∧ o.dst = none ∨ ∃ u, v = .value u ∧ M F ρ u x)) ∨
         ∃ b cap, ρ n = some (some (b, k, cap)) ∧ ∀ w', (news ≠ [] → (storeCells ⟨b, p * k, none⟩ news).run C.P w = .ok () w') → (news = [] → w' = w) → ∃ v, (execOp a.eval o).run C.P w = .ok v w' ∧ (v = .skip ∧ o.dst = none ∨ ∃ u, v = .value u ∧ M F ρ u x))) :
    ExOk C.P N o t h ⟨rt, rh, o.dst, x, [(n, .own ex k (rows.take p ++ rows' ++ rows.drop (p + rows'.length)))], []⟩ := by
  refine ex_write rt rh n ex k _ [] [] hN (.inr rfl) (by simp) fun B A h' F ρ a w hpp hm hh _ => ?_
  obtain ⟨news, hnl, hn1, hnR, hr⟩ := hrun B A h' F ρ a w hpp hm hh
  have hn' : h' n = .own ex k rows := (hh n hnr).trans hn
  have h3 := hpp.own n
  rw [hn'] at h3
  have hlen : (rows.take p ++ rows' ++ rows.drop (p + rows'.length)).length = rows.length := by simp; omega
  rcases hr with ⟨hρ, hr0, v, hx, hres⟩ | ⟨b, cap, hρ, hrun⟩
  · have hpl : (fun m => if m = n then some none else ρ m) = ρ := by
      funext m; by_cases hmn : m = n
      · subst hmn; simp [hρ]
      · simp [hmn]
    refine ⟨v, w, none, none, hx, by rw [hpl]; exact hres, .inr hρ, hpp.kept, (fun b hb => by cases hb), fun _ _ _ => rfl, (fun b c hb => by cases hb), .inl ⟨by simp, ?_⟩, fun _ => by rw [hρ]; simp⟩
    rcases h3 with ⟨_, h4⟩ | ⟨b, cap, c, e, h4, _⟩
    · subst h4; subst hr0; simp
    · rw [hρ] at h4; cases h4
  · obtain ⟨_, c, e, hb, hsz, hle, hex, hR⟩ := own_block h3 hρ
    have hpl : (fun m => if m = n then some (some (b, k, cap)) else ρ m) = ρ := by
      funext m; by_cases hmn : m = n
      · subst hmn; simp [hρ]
      · simp [hmn]
    have hcs : rows.length * k ≤ c.size := by rw [hsz]; exact Nat.mul_le_mul_right _ hle
    have hfit : p * k + news.length ≤ c.size := by rw [hnl, ← Nat.add_mul]; exact Nat.le_trans (Nat.mul_le_mul_right _ hp) hcs
    let c' : Array Value := (c.toList.take (p * k) ++ news ++ c.toList.drop (p * k + news.length)).toArray
    have hc's : c'.size = c.size := by simp only [c', List.size_toArray, List.length_append, List.length_take, List.length_drop, Array.length_toList]; omega
    have hst := run_storeCells_at C.P b (p * k) e news 0 c w hb (by simpa using hfit) hn1
    simp only [Nat.add_zero] at hst
    have hw' : news = [] → w.setRow b c' = w := fun hnn => by
      have : c' = c := by simp [c', hnn]
      rw [this]; exact setRow_self w b c e (0, 0) hb
    obtain ⟨v, hx, hres⟩ := hrun (w.setRow b c') (fun _ => hst) hw'
    have hnew := (hpp.new n b _ (by rw [hn']; rfl) hρ).2
    refine ⟨v, w.setRow b c', some (b, k, cap), some b, hx, by rw [hpl]; exact hres, .inr hρ, ?_, ?_, ?_, ?_, ?_, fun _ => by rw [hρ]; simp⟩
    · refine ⟨hpp.kept.os, hpp.kept.tape, hpp.kept.output, by simpa [World.setRow] using hpp.kept.size, fun b' hb' ho => ?_⟩
      rw [setRow_other _ _ _ _ (by rintro rfl; rcases hnew with hnew | hnew; · omega
                                   · exact ho hnew)]
      exact hpp.kept.block b' hb' ho
    · intro b' hb'
      simp only [Option.some.injEq] at hb'
      subst hb'
      exact ⟨n, _, .inl rfl, by rw [hn']; rfl, hρ⟩
    · intro b' _ hb'
      exact setRow_other _ _ _ _ (fun e => hb' (by rw [e]))
    · intro b' c'' he
      simp only [Option.some.injEq, Prod.mk.injEq] at he
      exact .inl (by rw [he.1])
    · rw [hpl]
      exact .inr ⟨b, cap, c', e, hρ, setRow_heap _ _ _ _ _ _ hb, by rw [hc's]; exact hsz, by rw [hlen]; exact hle, by rw [hlen]; exact hex, hR.put hp hcs hnl hnR⟩

theorem addr_at (b o k : Nat) : (⟨b, o, none⟩ : Addr).add k = ⟨b, o + k, none⟩ := by
  unfold Addr.add; split
  · rename_i h; subst h; rfl
  · rfl

/-- Append to a slice of our own whose rows behind are told of: in place. -/
theorem ex_append_in (T ty' e : Nat) (x y : Operand) (n len : Nat) (ex : Bool) (rs rows : List (List AV)) (rh : List Nat) (r re : TRec) (hx : evA t x = .os n 0 len) (hn : h n = .own ex re.size rs) (hT : look C.tab T = some r) (he : r.kind = .slice e) (hE : look C.tab e = some re)
    (hsrc : SrcA t h y re.size rows rh) (hfit : len + rows.length ≤ rs.length) (hN : d < N) :
    ExOk C.P N ⟨some d, .call ⟨.builtin .append, #[x, y], #[T, T]⟩, ty', pos, af, gd⟩ t h ⟨opT x ++ opT y, n :: rh, some d, .os n 0 (len + rows.length), [(n, .own ex re.size (rs.take len ++ rows ++ rs.drop (len + rows.length)))], []⟩ := by
  refine ex_putrows (C := C) _ _ n ex re.size len rs rows (fun d' hd' => by injection hd' with e; exact e ▸ hN) hn (by simp) hfit ?_
  intro B A h' F ρ a w hp hm hh
  have h1 := evA_sound (x := x) hm (fun j hj => List.mem_append_left _ hj)
  have h2 := evA_sound (x := y) hm (fun j hj => List.mem_append_right _ hj)
  rw [hx] at h1
  have hu := slice_spec (C.ok T r hT) he
  obtain ⟨dd, inf, z, _, hi, hz0, _, _, hsize, hbytes, hzc⟩ := trec_spec (C.ok e re hE)
  obtain ⟨news, hnews, hnl, hn1, hnR⟩ := hsrc.src (P := C.P) hp.agree h2 (fun n' hn' => (hh n' (List.mem_cons_of_mem _ hn')) ▸ hp.own n')
  have e1 := hnews w rfl
  have e2 := e1.2
  rw [← hsize] at e2
  have hn' : h' n = .own ex re.size rs := (hh n (by simp)).trans hn
  have ho := hp.own n
  rw [hn'] at ho
  refine ⟨news, hnl, hn1, hnR, ?_⟩
  rcases h1.os_inv with ⟨hρn, _, rfl, ad, hv⟩ | ⟨b, k', cap, ad, hρn, hv, hcap, ha⟩
  · left
    have hrs : rs = [] := by
      rcases ho with ⟨_, h4⟩ | ⟨b, cap, c, e, h4, _⟩
      · exact h4
      · rw [hρn] at h4; cases h4
    subst hrs
    have hr : rows = [] := List.eq_nil_of_length_eq_zero (by simpa using hfit)
    subst hr
    have hnn : news = [] := List.eq_nil_of_length_eq_zero (by simpa using hnl)
    subst hnn
    simp only [List.length_nil] at e1 e2
    refine ⟨hρn, rfl, .value (.slice ad 0 0), ?_, .inr ⟨_, rfl, .osn _ n ad hρn⟩⟩
    cases ad <;> simp [execOp, resolve, invoke, builtin, hv, Builtin.append_, run_underlying hu, sizeOf, typeInfo, hi, e1.1, e2, storeCells]
  · right
    obtain ⟨rfl, c, e0, hb, hcs, hle, _, hR⟩ := own_block ho hρn
    rw [Nat.sub_zero] at hv
    refine ⟨b, cap, hρn, fun w' hw1 hw2 => ⟨.value (.slice (some ad) (len + rows.length) cap), ?_, .inr ⟨_, rfl, ?_⟩⟩⟩
    · have hroom : len + rows.length ≤ cap := by omega
      have hs2 : (storeCells (ad.add (len * inf.size)) news).run C.P w = .ok () w' := by
        by_cases hnn : news = []
        · rw [hw2 hnn, hnn]; rfl
        · have hcp : 0 < cap := by
            have : 0 < rows.length := by
              rcases Nat.eq_zero_or_pos rows.length with h0 | h0
              · rw [h0] at hnl; exact absurd (List.eq_nil_of_length_eq_zero (by simpa using hnl)) hnn
              · exact h0
            omega
          have had := ha hcp
          rw [Nat.zero_mul] at had
          rw [had, addr_at, Nat.zero_add, hsize]
          exact hw1 hnn
      simp [execOp, resolve, invoke, builtin, hv, Builtin.append_, run_underlying hu, sizeOf, typeInfo, hi, e1.1, hroom, e2, hs2]
    · have := M.os (F := F) ρ n b re.size cap 0 (len + rows.length) ad hρn (by omega) ha
      rw [Nat.sub_zero] at this
      exact this

/-- Our own slice, cut. -/
theorem ex_slice_os (T e : Nat) (x : Operand) (lo hi : Option Operand) (n off len a b : Nat) (ex : Bool) (rows : List (List AV)) (r re : TRec) (hx : evA t x = .os n off len) (hn : h n = .own ex re.size rows) (hT : look C.tab T = some r) (he : r.kind = .slice e) (hE : look C.tab e = some re)
    (ha : BoundIs t lo 0 a) (hb : BoundIs t hi len b) (hab : a ≤ b) (hbl : off + b ≤ rows.length) (hN : d < N) :
    ExOk C.P N ⟨some d, .slice T x lo hi none, ty, pos, af, gd⟩ t h ⟨opT x ++ (lo.toList.flatMap opT ++ hi.toList.flatMap opT), [n], some d, .os n (off + a) (b - a), [], []⟩ :=
  ex_pure _ _ rfl hN fun F ρ act w hag hs hown => by
    have h1 := evA_sound (x := x) hs (fun j hj => List.mem_append_left _ hj)
    rw [hx] at h1
    have ho := hown n (by simp)
    rw [hn] at ho
    have hu := slice_spec (C.ok T r hT) he
    have hLo : ∀ o, lo = some o → ∃ k, act.eval o = .int k (a : Int) := fun o ho => by subst ho; exact BoundIs.val ha hs (fun j hj => List.mem_append_right _ (List.mem_append_left _ (by simpa using hj)))
    have hHi : ∀ o, hi = some o → ∃ k, act.eval o = .int k (b : Int) := fun o ho => by subst ho; exact BoundIs.val hb hs (fun j hj => List.mem_append_right _ (List.mem_append_right _ (by simpa using hj)))
    have hbounds : ∀ cap, b ≤ cap → (Instr.sliceBounds true len cap (lo.map act.eval) (hi.map act.eval) none).run C.P w = .ok (a, b, cap) w := by
      intro cap hbc
      unfold Instr.sliceBounds
      cases hi with
      | none =>
        have hb' : b = len := hb
        subst hb'
        cases lo with
        | none => have ha' : a = 0 := ha; subst ha'; simp
        | some o => obtain ⟨k, hk⟩ := hLo o rfl; simp [run_sliceBound hk hab]
      | some o' =>
        obtain ⟨k', hk'⟩ := hHi o' rfl
        cases lo with
        | none => have ha' : a = 0 := ha; subst ha'; simp [run_sliceBound hk' hbc]
        | some o => obtain ⟨k, hk⟩ := hLo o rfl; simp [run_sliceBound hk' hbc, run_sliceBound hk hab]
    rcases h1.os_inv with ⟨hρn, rfl, rfl, ad, hv⟩ | ⟨bk, k', cap, ad, hρn, hv, hcap, hadr⟩
    · have hrs : rows = [] := by
        rcases ho with ⟨_, h4⟩ | ⟨b, cap, c, e, h4, _⟩
        · exact h4
        · rw [hρn] at h4; cases h4
      subst hrs
      have hb0 : b = 0 := by simpa using hbl
      subst hb0
      have ha0 : a = 0 := by omega
      subst ha0
      refine ⟨.slice ad 0 0, ?_, by simpa using M.osn ρ n ad hρn⟩
      simp only [execOp, Instr.sliceAt, Sem.run_bind, run_underlying hu, Result.andThen_ok, Instr.slice, hv, Option.map_none, hbounds 0 (Nat.le_refl _), run_sizeOf (C.ok e re hE), Sem.run_pure, if_true]
    · obtain ⟨rfl, c, e0, hbk, hcs, hle, _, hR⟩ := own_block ho hρn
      refine ⟨.slice (if cap - off = a then some ad else some (ad.add (a * re.size))) (b - a) (cap - off - a), ?_, ?_⟩
      · simp only [execOp, Instr.sliceAt, Sem.run_bind, run_underlying hu, Result.andThen_ok, Instr.slice, hv, Option.map_none, hbounds (cap - off) (by omega), run_sizeOf (C.ok e re hE), Sem.run_pure, Option.map_some]
      · have e1 : cap - off - a = cap - (off + a) := by omega
        rw [e1]
        by_cases hc : cap - off = a
        · rw [if_pos hc]
          exact M.os (F := F) ρ n bk re.size cap (off + a) (b - a) ad hρn (by omega) (fun h => by omega)
        · rw [if_neg hc]
          refine M.os (F := F) ρ n bk re.size cap (off + a) (b - a) _ hρn (by omega) (fun h => ?_)
          rw [hadr (by omega), addr_at, ← Nat.add_mul]

/-- Our own slice, cut with a third bound: of what comes nothing is told. -/
theorem ex_slice_os3 (T e : Nat) (x : Operand) (lo hi : Option Operand) (om : Operand) (n off len a b m : Nat) (km : IntKind) (ex : Bool) (rows : List (List AV)) (r re : TRec) (hx : evA t x = .os n off len) (hn : h n = .own ex re.size rows) (hT : look C.tab T = some r) (he : r.kind = .slice e) (hE : look C.tab e = some re)
    (ha : BoundIs t lo 0 a) (hb : BoundIs t hi len b) (hm : evA t om = .v (.int km (m : Int))) (his : hi.isSome = true) (hab : a ≤ b) (hbm : b ≤ m) (hbl : off + m ≤ rows.length) (hN : d < N) :
    ExOk C.P N ⟨some d, .slice T x lo hi (some om), ty, pos, af, gd⟩ t h ⟨opT x ++ (lo.toList.flatMap opT ++ (hi.toList.flatMap opT ++ opT om)), [n], some d, .junk, [], []⟩ :=
  ex_pure _ _ rfl hN fun F ρ act w hag hs hown => by
    have h1 := evA_sound (x := x) hs (fun j hj => List.mem_append_left _ hj)
    rw [hx] at h1
    have ho := hown n (by simp)
    rw [hn] at ho
    have hu := slice_spec (C.ok T r hT) he
    have hLo : ∀ o, lo = some o → ∃ k, act.eval o = .int k (a : Int) := fun o ho => by subst ho; exact BoundIs.val ha hs (fun j hj => List.mem_append_right _ (List.mem_append_left _ (by simpa using hj)))
    have hHi : ∀ o, hi = some o → ∃ k, act.eval o = .int k (b : Int) := fun o ho => by subst ho; exact BoundIs.val hb hs (fun j hj => List.mem_append_right _ (List.mem_append_right _ (List.mem_append_left _ (by simpa using hj))))
    have hM := evA_sound (x := om) hs (fun j hj => List.mem_append_right _ (List.mem_append_right _ (List.mem_append_right _ (by simpa using hj))))
    rw [hm] at hM
    have hkm := hM.v_inv.1
    have hbounds : ∀ cap, m ≤ cap → (Instr.sliceBounds true len cap (lo.map act.eval) (hi.map act.eval) (some (act.eval om))).run C.P w = .ok (a, b, m) w := by
      intro cap hmc
      unfold Instr.sliceBounds
      cases hi with
      | none => cases his
      | some o' =>
        obtain ⟨k', hk'⟩ := hHi o' rfl
        cases lo with
        | none => have ha' : a = 0 := ha; subst ha'; simp [run_sliceBound hkm hmc, run_sliceBound hk' hbm]
        | some o => obtain ⟨k, hk⟩ := hLo o rfl; simp [run_sliceBound hkm hmc, run_sliceBound hk' hbm, run_sliceBound hk hab]
    have hv : ∃ ad cap, act.eval x = .slice ad len cap ∧ m ≤ cap := by
      rcases h1.os_inv with ⟨hρn, rfl, rfl, ad, hv⟩ | ⟨bk, k', cap, ad, hρn, hv, hcap, hadr⟩
      · have hrs : rows = [] := by
          rcases ho with ⟨_, h4⟩ | ⟨b, cap, c, e, h4, _⟩
          · exact h4
          · rw [hρn] at h4; cases h4
        subst hrs
        exact ⟨ad, 0, hv, by simpa using hbl⟩
      · obtain ⟨rfl, c, e0, hbk, hcs, hle, _, hR⟩ := own_block ho hρn
        exact ⟨some ad, cap - off, hv, by omega⟩
    obtain ⟨ad, cap, hv, hmc⟩ := hv
    refine ⟨.slice (if m = a then ad else ad.map (·.add (a * re.size))) (b - a) (m - a), ?_, .junk _ _⟩
    simp only [execOp, Instr.sliceAt, Sem.run_bind, run_underlying hu, Result.andThen_ok, Instr.slice, hv, Option.map_some, hbounds cap hmc, run_sizeOf (C.ok e re hE), Sem.run_pure]

theorem zeroCells_toList (z : Array Value) (n : Nat) : (Builtin.zeroCells z n).toList = (List.replicate n z.toList).flatten := by
  refine List.ext_getElem? fun i => ?_
  have hlen : ((List.replicate n z.toList).flatten).length = n * z.size := by simp
  have hsz : (Builtin.zeroCells z n).toList.length = n * z.size := by simp [Builtin.zeroCells]
  by_cases hi : i < n * z.size
  · have hz : 0 < z.size := by
      rcases Nat.eq_zero_or_pos z.size with h0 | h0
      · rw [h0] at hi; omega
      · exact h0
    have hmod : i % z.size < z.size := Nat.mod_lt _ hz
    have h1 : (Builtin.zeroCells z n).toList[i]? = some (z[i % z.size]'hmod) := by
      simp only [Builtin.zeroCells, Array.toList_map, List.getElem?_map, Array.toList_range, List.getElem?_range hi, Option.map_some, Option.some.injEq]
      exact getElem!_pos z (i % z.size) hmod
    rw [h1]
    symm
    have key : ∀ (n i : Nat), i < n * z.size → ((List.replicate n z.toList).flatten)[i]? = some (z[i % z.size]'(Nat.mod_lt _ hz)) := by
      intro n
      induction n with
      | zero => intro i hi; simp at hi
      | succ n ih =>
        intro i hi
        rw [List.replicate_succ, List.flatten_cons]
        by_cases hlt : i < z.size
        · rw [List.getElem?_append_left (by simpa using hlt)]
          simp [Nat.mod_eq_of_lt hlt, hlt]
        · rw [List.getElem?_append_right (by simpa using Nat.le_of_not_lt hlt)]
          rw [Array.length_toList]
          rw [ih (i - z.size) (by rw [Nat.succ_mul] at hi; omega)]
          congr 1
          have : (i - z.size) % z.size = i % z.size := (Nat.mod_eq_sub_mod (Nat.le_of_not_lt hlt)).symm
          simp only [this]
    exact key n i hi
  · rw [List.getElem?_eq_none (by omega), List.getElem?_eq_none (by omega)]

/-- Rows that are all the zero of their type. -/
theorem rowsAt_zero {F : Still} {ρ : Places} {k : Nat} (z : List Value) (hz : z.length = k) (n : Nat) : RowsAt F ρ ((List.replicate n z).flatten).toArray k (List.replicate n (z.map ofV)) := by
  refine ⟨fun row hr => by rw [(List.mem_replicate.1 hr).2]; simpa using hz, fun i j row x v hi hj hv => ?_⟩
  have hin : i < n := by have := (List.getElem?_eq_some_iff.1 hi).1; simpa using this
  have hrow : row = z.map ofV := by
    rw [List.getElem?_replicate, if_pos hin] at hi
    simpa using hi.symm
  subst hrow
  have hjk : j < k := by have := (List.getElem?_eq_some_iff.1 hj).1; simp at this; omega
  have hcell : ((List.replicate n z).flatten)[i * k + j]? = z[j]? := by
    clear hi hv
    induction n generalizing i with
    | zero => omega
    | succ n ih =>
      rw [List.replicate_succ, List.flatten_cons]
      cases i with
      | zero => rw [Nat.zero_mul, Nat.zero_add, List.getElem?_append_left (by omega)]
      | succ i =>
        rw [List.getElem?_append_right (by rw [Nat.succ_mul]; omega), Nat.succ_mul, show i * k + k + j - z.length = i * k + j from by omega]
        exact ih i (by omega)
  simp only [List.getElem?_toArray] at hv
  rw [hcell] at hv
  rw [List.getElem?_map, hv] at hj
  simp only [Option.map_some, Option.some.injEq] at hj
  rw [← hj]
  exact ofV_sound F ρ v

/-- Our own slice cleared. -/
theorem ex_clear_os (T ty' e : Nat) (x : Operand) (n off len : Nat) (ex : Bool) (rows : List (List AV)) (r re : TRec) (hx : evA t x = .os n off len) (hn : h n = .own ex re.size rows) (hT : look C.tab T = some r) (he : r.kind = .slice e) (hE : look C.tab e = some re)
    (hz : re.zero.length = re.size) (hz1 : re.zero.all (fun v => v.oneCell') = true) (hfit : off + len ≤ rows.length) :
    ExOk C.P N ⟨none, .call ⟨.builtin .clear, #[x], #[T]⟩, ty', pos, af, gd⟩ t h ⟨opT x, [n], none, .tup [], [(n, .own ex re.size (rows.take off ++ List.replicate len (re.zero.map ofV) ++ rows.drop (off + len)))], []⟩ := by
  have := ex_putrows (C := C) (N := N) (t := t) (h := h) (o := ⟨none, .call ⟨.builtin .clear, #[x], #[T]⟩, ty', pos, af, gd⟩) (x := .tup []) (opT x) [n] n ex re.size off rows (List.replicate len (re.zero.map ofV)) (fun d' hd' => by cases hd') hn (by simp) (by simpa using hfit) ?_
  · simpa using this
  intro B A h' F ρ a w hp hm hh
  have h1 := evA_sound (x := x) hm (fun j hj => hj)
  rw [hx] at h1
  have hu := slice_spec (C.ok T r hT) he
  obtain ⟨dd, inf, z, _, hi, hz0, _, _, hsize, hbytes, hzc⟩ := trec_spec (C.ok e re hE)
  obtain ⟨z', hzv, hzc'⟩ := run_zeroOf (C.ok e re hE) w
  have hn' : h' n = .own ex re.size rows := (hh n (by simp)).trans hn
  have ho := hp.own n
  rw [hn'] at ho
  have htl : (Builtin.zeroCells z'.cells len).toList = (List.replicate len re.zero).flatten := by rw [zeroCells_toList, hzc']
  refine ⟨(List.replicate len re.zero).flatten, by simp [hz], fun v hv => ?_, rowsAt_zero _ hz _, ?_⟩
  · obtain ⟨l, hl, hvl⟩ := List.mem_flatten.1 hv
    rw [(List.mem_replicate.1 hl).2] at hvl
    exact List.all_eq_true.1 hz1 v hvl
  · have htup : M F ρ (.tuple #[]) (.tup []) := .tup ρ [] [] rfl (fun i v x h => by cases i <;> cases h)
    rcases h1.os_inv with ⟨hρn, rfl, rfl, ad, hv⟩ | ⟨bk, k', cap, ad, hρn, hv, hcap, hadr⟩
    · left
      refine ⟨hρn, by simp, .value (.tuple #[]), ?_, .inr ⟨_, rfl, htup⟩⟩
      cases ad <;> simp [execOp, resolve, invoke, builtin, hv, Builtin.clear_, run_underlying hu]
    · right
      obtain ⟨rfl, c, e0, hbk, hcs, hle, _, hR⟩ := own_block ho hρn
      refine ⟨bk, cap, hρn, fun w' hw1 hw2 => ⟨.value (.tuple #[]), ?_, .inr ⟨_, rfl, htup⟩⟩⟩
      by_cases h0 : len = 0
      · subst h0
        rw [hw2 (by simp)]
        simp [execOp, resolve, invoke, builtin, hv, Builtin.clear_, run_underlying hu]
      · have had := hadr (by omega)
        by_cases hnn : (List.replicate len re.zero).flatten = []
        · rw [hw2 hnn]
          obtain ⟨q, rfl⟩ : ∃ q, len = q + 1 := ⟨len - 1, by omega⟩
          simp [execOp, resolve, invoke, builtin, hv, Builtin.clear_, run_underlying hu, hzv, htl, hnn, storeCells]
        · have hs := hw1 hnn
          obtain ⟨q, rfl⟩ : ∃ q, len = q + 1 := ⟨len - 1, by omega⟩
          simp [execOp, resolve, invoke, builtin, hv, Builtin.clear_, run_underlying hu, hzv, htl, had, hs]

theorem run_isnil {T e : Nat} (hu : P.underlying T = some (.slice e)) (op : BinOp) (hop : op = .eql ∨ op = .neq) (a : Act) (x : Operand) (yT : TypeId) (ad : Option Addr) (n cap : Nat) (w : World) (hv : a.eval x = .slice ad n cap) :
    (execOp a.eval ⟨some d, .binOp op T x (.const (.slice none 0 0)) yT, ty, pos, af, gd⟩).run P w = .ok (.value (.bool (if op = .eql then ad.isNone else !ad.isNone))) w := by
  have hc : a.eval (.const (.slice none 0 0)) = .slice none 0 0 := rfl
  have h1 : (Op.equal T (.slice ad n cap) (.slice none 0 0)).run P w = .ok ad.isNone w := by
    show (Op.equalIn (9999 + 1) T (.slice ad n cap) (.slice none 0 0)).run P w = _
    unfold Op.equalIn
    cases ad <;> simp [run_underlying hu]
  rcases hop with rfl | rfl <;> simp [execOp, hv, hc, eqGuard, binOp, h1]

/-- Is a slice nil? That is not told. -/
theorem ex_isnil (op : BinOp) (T e : Nat) (x : Operand) (yT : TypeId) (ex : Bool) (rows : List (List AV)) (r : TRec) (hx : evA t x = .sl ex rows) (hT : look C.tab T = some r) (he : r.kind = .slice e) (hop : op = .eql ∨ op = .neq) (hN : d < N) :
    ExOk C.P N ⟨some d, .binOp op T x (.const (.slice none 0 0)) yT, ty, pos, af, gd⟩ t h ⟨opT x, [], some d, .anyb, [], []⟩ :=
  ex_pure _ _ rfl hN fun F ρ a w _ hs _ => by
    have h1 := evA_sound (x := x) hs (fun j hj => hj)
    rw [hx] at h1
    have hu := slice_spec (C.ok _ r hT) he
    rcases h1.sl_inv with ⟨_, ad, cap, hv, _⟩ | ⟨b, o, cap, c, e', fr, kk, hb, _, _, hsz, hkk, hR, hv⟩
    · exact ⟨_, run_isnil hu op hop a x yT ad 0 cap w hv, .anyb _ _⟩
    · exact ⟨_, run_isnil hu op hop a x yT _ _ _ w hv, .anyb _ _⟩
/-- A slice with rows is not nil. -/
theorem ex_notnil (op : BinOp) (T e : Nat) (x : Operand) (yT : TypeId) (ex : Bool) (rows : List (List AV)) (r : TRec) (hx : evA t x = .sl ex rows) (hne : rows ≠ []) (hT : look C.tab T = some r) (he : r.kind = .slice e) (hop : op = .eql ∨ op = .neq) (hN : d < N) :
    ExOk C.P N ⟨some d, .binOp op T x (.const (.slice none 0 0)) yT, ty, pos, af, gd⟩ t h ⟨opT x, [], some d, .v (.bool (if op = .eql then false else true)), [], []⟩ :=
  ex_pure _ _ rfl hN fun F ρ a w _ hs _ => by
    have h1 := evA_sound (x := x) hs (fun j hj => hj)
    rw [hx] at h1
    have hu := slice_spec (C.ok _ r hT) he
    rcases h1.sl_inv with ⟨h0, _⟩ | ⟨b, o, cap, c, e', fr, kk, hb, _, _, hsz, hkk, hR, hv⟩
    · exact absurd h0 hne
    · exact ⟨_, run_isnil hu op hop a x yT _ _ _ w hv, .v _ _ rfl⟩
/-- Is our own slice nil? -/
theorem ex_isnil_os (op : BinOp) (T e : Nat) (x : Operand) (yT : TypeId) (n off len : Nat) (r : TRec) (hx : evA t x = .os n off len) (hT : look C.tab T = some r) (he : r.kind = .slice e) (hop : op = .eql ∨ op = .neq) (hN : d < N) :
    ExOk C.P N ⟨some d, .binOp op T x (.const (.slice none 0 0)) yT, ty, pos, af, gd⟩ t h ⟨opT x, [], some d, .anyb, [], []⟩ :=
  ex_pure _ _ rfl hN fun F ρ a w _ hs _ => by
    have h1 := evA_sound (x := x) hs (fun j hj => hj)
    rw [hx] at h1
    have hu := slice_spec (C.ok _ r hT) he
    rcases h1.os_inv with ⟨_, _, rfl, ad0, hv⟩ | ⟨b, k, cap, ad, hρ, hv, hl, ha⟩
    · exact ⟨_, run_isnil hu op hop a x yT _ _ _ w hv, .anyb _ _⟩
    · exact ⟨_, run_isnil hu op hop a x yT _ _ _ w hv, .anyb _ _⟩

theorem ex_succ (T : TypeId) (x y : Operand) (yT : TypeId) (a : Nat) (hx : evA t x = .v (.int .i64 (a : Int))) (hy : evA t y = .v (.int .i64 1)) (h2 : a + 1 ≤ 9223372036854775807) (hN : d < N) :
    ExOk P N ⟨some d, .binOp .add T x y yT, ty, pos, af, gd⟩ t h ⟨opT x ++ opT y, [], some d, .v (.int .i64 ((a + 1 : Nat) : Int)), [], []⟩ := by
  have := ex_add (P := P) (N := N) (ty := ty) (pos := pos) (af := af) (gd := gd) (h := h) T x y yT a 1 hx hy (by omega) (by omega) hN
  exact this
theorem ex_pred (T : TypeId) (x y : Operand) (yT : TypeId) (a : Nat) (hx : evA t x = .v (.int .i64 ((a + 1 : Nat) : Int))) (hy : evA t y = .v (.int .i64 1)) (h2 : a + 1 ≤ 9223372036854775807) (hN : d < N) :
    ExOk P N ⟨some d, .binOp .sub T x y yT, ty, pos, af, gd⟩ t h ⟨opT x ++ opT y, [], some d, .v (.int .i64 (a : Int)), [], []⟩ := by
  have := ex_sub (P := P) (N := N) (ty := ty) (pos := pos) (af := af) (gd := gd) (h := h) T x y yT ((a + 1 : Nat) : Int) 1 hx hy (by omega) (by omega) hN
  rwa [show ((a + 1 : Nat) : Int) - 1 = (a : Int) from by omega] at this
end ops
end Go.Ab
