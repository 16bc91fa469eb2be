/- The abstract layer, 1: abstract values, what they stand for, the state. No program in sight. -/
import Derived.Orders
import Derived.Below
import Derived.ProofKit
namespace Go.Ab
open Go.RowKit



/-- Abstract values. v: a plain value · agg, tup: of parts · sl: a slice that nobody will write to (ex: its capacity is its length) · fp: an address within such rows · os, op: a slice, an address in memory of our own · clo: a function value · mp: a map of our own · anyb: a truth value that is not known · junk: anything. -/
inductive AV where
  | v (x : Value)
  | agg (cs : List AV)
  | tup (cs : List AV)
  | sl (ex : Bool) (rows : List (List AV))
  | fp (rows : List (List AV)) (i j : Nat)
  | os (n off len : Nat)
  | op (n i j : Nat)
  | clo (fn : Fn) (first cap : List AV)
  | mp (n : Nat)
  | anyb
  | junk

/-- A value that is one cell. -/
def single : Value → Bool
  | .agg _ | .tuple _ => false
  | _ => true

/-- Where a name's memory lies: nowhere (a nil slice), or a block: its number, the cells of a row, the rows. -/
abbrev Places := Nat → Option (Option (Nat × Nat × Nat))
/-- Blocks that nobody will write to. -/
abbrev Still := Nat → Option Obj

def noPlaces : Places := fun _ => none

/-- A value is as told, F the blocks that nobody will write to, ρ where our own memory lies. What stands within rows of the first kind knows nothing of the second. -/
inductive M (F : Still) : Places → Value → AV → Prop
  | v (ρ : Places) (x : Value) (h : single x = true) : M F ρ x (.v x)
  | agg (ρ : Places) (vs : List Value) (xs : List AV) (hl : vs.length = xs.length) (h : ∀ (i : Nat) v x, vs[i]? = some v → xs[i]? = some x → M F ρ v x) : M F ρ (.agg vs.toArray) (.agg xs)
  | tup (ρ : Places) (vs : List Value) (xs : List AV) (hl : vs.length = xs.length) (h : ∀ (i : Nat) v x, vs[i]? = some v → xs[i]? = some x → M F ρ v x) : M F ρ (.tuple vs.toArray) (.tup xs)
  | sl0 (ρ : Places) (a : Option Addr) (cap : Nat) (ex : Bool) (he : ex = true → cap = 0) (hn : a = none → cap = 0) : M F ρ (.slice a 0 cap) (.sl ex [])
  | sl (ρ : Places) (b off cap : Nat) (c : Array Value) (e : TypeId) (fr : Nat × Nat) (ex : Bool) (k : Nat) (rows : List (List AV)) (hb : F b = some (.cells c e fr)) (hc : rows.length ≤ cap) (he : ex = true → cap = rows.length)
      (hs : off + rows.length * k ≤ c.size) (hk : ∀ row, row ∈ rows → row.length = k)
      (h : ∀ (i j : Nat) row x v, rows[i]? = some row → row[j]? = some x → c[off + i * k + j]? = some v → M F noPlaces v x) : M F ρ (.slice (some ⟨b, off, none⟩) rows.length cap) (.sl ex rows)
  | fp (ρ : Places) (b off : Nat) (c : Array Value) (e : TypeId) (fr : Nat × Nat) (k : Nat) (rows : List (List AV)) (i j : Nat) (hb : F b = some (.cells c e fr)) (hi : i < rows.length)
      (hs : off + rows.length * k ≤ c.size) (hk : ∀ row, row ∈ rows → row.length = k)
      (h : ∀ (i j : Nat) row x v, rows[i]? = some row → row[j]? = some x → c[off + i * k + j]? = some v → M F noPlaces v x) : M F ρ (.pointer (some ⟨b, off + i * k + j, none⟩)) (.fp rows i j)
  | os (ρ : Places) (n b k cap off len : Nat) (a : Addr) (hn : ρ n = some (some (b, k, cap))) (hl : off + len ≤ cap) (ha : off < cap → a = ⟨b, off * k, none⟩) : M F ρ (.slice (some a) len (cap - off)) (.os n off len)
  | osn (ρ : Places) (n : Nat) (a : Option Addr) (hn : ρ n = some none) : M F ρ (.slice a 0 0) (.os n 0 0)
  | op (ρ : Places) (n b k cap i j : Nat) (hn : ρ n = some (some (b, k, cap))) : M F ρ (.pointer (some ⟨b, i * k + j, none⟩)) (.op n i j)
  | clo (ρ : Places) (fn : Fn) (vs us : List Value) (xs ys : List AV) (hl : vs.length = xs.length) (hm : us.length = ys.length) (h : ∀ (i : Nat) v x, vs[i]? = some v → xs[i]? = some x → M F ρ v x)
      (h' : ∀ (i : Nat) v x, us[i]? = some v → ys[i]? = some x → M F ρ v x) : M F ρ (.func fn vs.toArray us.toArray) (.clo fn xs ys)
  | mp (ρ : Places) (n b : Nat) (hn : ρ n = some (some (b, 0, 0))) : M F ρ (.map (some b)) (.mp n)
  | anyb (ρ : Places) (b : Bool) : M F ρ (.bool b) .anyb
  | junk (ρ : Places) (v : Value) : M F ρ v .junk

def Still.le (F G : Still) : Prop := ∀ b o, F b = some o → G b = some o
def Places.le (ρ σ : Places) : Prop := ∀ n c, ρ n = some c → σ n = some c
theorem Places.le_refl (ρ : Places) : ρ.le ρ := fun _ _ h => h
theorem Still.le_refl (F : Still) : F.le F := fun _ _ h => h
theorem noPlaces_le (ρ : Places) : noPlaces.le ρ := fun _ _ h => by cases h

theorem M.mono {F G : Still} {ρ σ : Places} (hF : F.le G) (hρ : ρ.le σ) {v : Value} {x : AV} (h : M F ρ v x) : M G σ v x := by
  induction h generalizing σ with
  | v ρ x h => exact .v _ x h
  | agg ρ vs xs hl _ ih => exact .agg _ vs xs hl fun i v x h1 h2 => ih i v x h1 h2 hρ
  | tup ρ vs xs hl _ ih => exact .tup _ vs xs hl fun i v x h1 h2 => ih i v x h1 h2 hρ
  | sl0 ρ a cap ex he hn => exact .sl0 _ a cap ex he hn
  | sl ρ b off cap c e fr ex k rows hb hc he hs hk _ ih => exact .sl _ b off cap c e fr ex k rows (hF _ _ hb) hc he hs hk fun i j row x v h1 h2 h3 => ih i j row x v h1 h2 h3 (Places.le_refl _)
  | fp ρ b off c e fr k rows i j hb hi hs hk _ ih => exact .fp _ b off c e fr k rows i j (hF _ _ hb) hi hs hk fun i j row x v h1 h2 h3 => ih i j row x v h1 h2 h3 (Places.le_refl _)
  | os ρ n b k cap off len a hn hl ha => exact .os _ n b k cap off len a (hρ _ _ hn) hl ha
  | osn ρ n a hn => exact .osn _ n a (hρ _ _ hn)
  | op ρ n b k cap i j hn => exact .op _ n b k cap i j (hρ _ _ hn)
  | clo ρ fn vs us xs ys hl hm _ _ ih ih' => exact .clo _ fn vs us xs ys hl hm (fun i v x h1 h2 => ih i v x h1 h2 hρ) (fun i v x h1 h2 => ih' i v x h1 h2 hρ)
  | mp ρ n b hn => exact .mp _ n b (hρ _ _ hn)
  | anyb ρ b => exact .anyb _ b
  | junk ρ v => exact .junk _ v

/-- Nothing in it is of our own memory. -/
def AV.pure : AV → Bool
  | .v _ | .sl .. | .fp .. | .anyb | .junk => true
  | .os .. | .op .. | .mp _ => false
  | .agg cs => pureL cs
  | .tup cs => pureL cs
  | .clo _ xs ys => pureL xs && pureL ys
where
  pureL : List AV → Bool
    | [] => true
    | x :: l => x.pure && pureL l

theorem pureL_mem {l : List AV} (h : AV.pure.pureL l = true) {i : Nat} {x : AV} (hx : l[i]? = some x) : x.pure = true := by
  induction l generalizing i with
  | nil => simp at hx
  | cons y l ih =>
    simp only [AV.pure.pureL, Bool.and_eq_true] at h
    cases i with
    | zero => simp at hx; exact hx ▸ h.1
    | succ i => exact ih h.2 (by simpa using hx)

theorem M.moved {F : Still} {ρ : Places} (σ : Places) {v : Value} {x : AV} (h : M F ρ v x) (hx : x.pure = true) : M F σ v x := by
  induction h generalizing σ with
  | v ρ x h => exact .v _ x h
  | agg ρ vs xs hl _ ih => exact .agg _ vs xs hl fun i v x h1 h2 => ih i v x h1 h2 _ (pureL_mem (by simpa [AV.pure] using hx) h2)
  | tup ρ vs xs hl _ ih => exact .tup _ vs xs hl fun i v x h1 h2 => ih i v x h1 h2 _ (pureL_mem (by simpa [AV.pure] using hx) h2)
  | sl0 ρ a cap ex he hn => exact .sl0 _ a cap ex he hn
  | sl ρ b off cap c e fr ex k rows hb hc he hs hk h _ => exact .sl _ b off cap c e fr ex k rows hb hc he hs hk h
  | fp ρ b off c e fr k rows i j hb hi hs hk h _ => exact .fp _ b off c e fr k rows i j hb hi hs hk h
  | os ρ n b k cap off len a hn hl ha => cases hx
  | osn ρ n a hn => cases hx
  | op ρ n b k cap i j hn => cases hx
  | clo ρ fn vs us xs ys hl hm _ _ ih ih' =>
    simp only [AV.pure, Bool.and_eq_true] at hx
    exact .clo _ fn vs us xs ys hl hm (fun i v x h1 h2 => ih i v x h1 h2 _ (pureL_mem hx.1 h2)) (fun i v x h1 h2 => ih' i v x h1 h2 _ (pureL_mem hx.2 h2))
  | mp ρ n b hn => cases hx
  | anyb ρ b => exact .anyb _ b
  | junk ρ v => exact .junk _ v

/-- Memory of our own, as the state tells of it. dead: of it nothing is told · own: so many rows (ex: and no spare ones) · fz: rows that are written no more. -/
inductive HB where
  | dead
  | own (ex : Bool) (k : Nat) (rows : List (List AV))
  | fz (rows : List (List AV))
  | mp (l : List (List UInt8 × AV))

def HB.isOwn : HB → Bool
  | .own .. => true
  | .mp _ => true
  | _ => false

/-- Rows of k cells from an offset on. -/
def RowsAt (F : Still) (ρ : Places) (c : Array Value) (k : Nat) (rows : List (List AV)) : Prop :=
  (∀ row, row ∈ rows → row.length = k) ∧ ∀ (i j : Nat) row x v, rows[i]? = some row → row[j]? = some x → c[i * k + j]? = some v → M F ρ v x

/-- The entries of a map, in the order in which they came: its keys are strings. -/
def MapAt (F : Still) (ρ : Places) (es : Array MapEntry) (l : List (List UInt8 × AV)) : Prop :=
  es.size = l.length ∧ ∀ (i : Nat) e x, es[i]? = some e → l[i]? = some x → e.key = .string ⟨x.1.toArray⟩ ∧ M F ρ e.val x.2

def OwnAt (F : Still) (ρ : Places) (w : World) (n : Nat) : HB → Prop
  | .dead => True
  | .own ex k rows => (ρ n = some none ∧ rows = []) ∨ ∃ b cap c e, ρ n = some (some (b, k, cap)) ∧ w.heap[b]? = some (.cells c e (0, 0)) ∧ c.size = cap * k ∧ rows.length ≤ cap ∧ (ex = true → cap = rows.length) ∧ RowsAt F ρ c k rows
  | .fz rows => (ρ n = some none ∧ rows = []) ∨ ∃ b k cap c e fr, ρ n = some (some (b, k, cap)) ∧ F b = some (.cells c e fr) ∧ rows.length * k ≤ c.size ∧ rows.length ≤ cap ∧ RowsAt F noPlaces c k rows
  | .mp l => ∃ b es clock, ρ n = some (some (b, 0, 0)) ∧ w.heap[b]? = some (.map es clock) ∧ MapAt F ρ es l

theorem MapAt.mono {F G : Still} {ρ σ : Places} (hF : F.le G) (hρ : ρ.le σ) {es : Array MapEntry} {l : List (List UInt8 × AV)} (h : MapAt F ρ es l) : MapAt G σ es l :=
  ⟨h.1, fun i e x h1 h2 => ⟨(h.2 i e x h1 h2).1, (h.2 i e x h1 h2).2.mono hF hρ⟩⟩

theorem RowsAt.mono {F G : Still} {ρ σ : Places} (hF : F.le G) (hρ : ρ.le σ) {c : Array Value} {k : Nat} {rows : List (List AV)} (h : RowsAt F ρ c k rows) : RowsAt G σ c k rows :=
  ⟨h.1, fun i j row x v h1 h2 h3 => (h.2 i j row x v h1 h2 h3).mono hF hρ⟩

/-- What a call began with: the blocks that it may not write, their contents; the blocks handed over; the names. -/
structure Base where
  w0 : World
  F0 : Still
  ρ0 : Places
  O0 : Nat → Prop
  N : Nat

def Base.new (B : Base) (b : Nat) : Prop := B.w0.heap.size ≤ b ∨ B.O0 b

/-- The frame: all that was there, and was not handed over, is as it was. -/
structure Base.kept (B : Base) (w : World) : Prop where
  os : w.os = B.w0.os
  tape : w.tape = B.w0.tape
  output : w.output = B.w0.output
  size : B.w0.heap.size ≤ w.heap.size
  block : ∀ b, b < B.w0.heap.size → ¬ B.O0 b → w.heap[b]? = B.w0.heap[b]?

/-- The heap's part of a state. -/
structure Hp (B : Base) (A : Nat → Prop) (h : Nat → HB) (F : Still) (ρ : Places) (w : World) : Prop where
  kept : B.kept w
  agree : ∀ b o, F b = some o → w.heap[b]? = some o
  grow : B.F0.le F
  fresh : ∀ b, F b ≠ none → B.F0 b ≠ none ∨ B.new b
  names : B.ρ0.le ρ
  dom : ∀ n, ρ n ≠ none → A n
  own : ∀ n, OwnAt F ρ w n (h n)
  new : ∀ n b c, (h n).isOwn = true → ρ n = some (some (b, c)) → F b = none ∧ B.new b
  sep : ∀ n m b c c', n ≠ m → (h n).isOwn = true → (h m).isOwn = true → ρ n = some (some (b, c)) → ρ m = some (some (b, c')) → False

theorem Hp.blk {B : Base} {A : Nat → Prop} {h : Nat → HB} {F : Still} {ρ : Places} {w : World} (hp : Hp B A h F ρ w) {n b : Nat} {c : Nat × Nat} (ho : (h n).isOwn = true) (hn : ρ n = some (some (b, c))) : b < w.heap.size := by
  have := hp.own n
  cases hh : h n with
  | own ex k rows =>
    rw [hh] at this
    rcases this with ⟨h1, _⟩ | ⟨b', cap, cc, e, h1, h2, _⟩
    · rw [hn] at h1; cases h1
    · rw [hn] at h1; simp only [Option.some.injEq, Prod.mk.injEq] at h1
      rw [h1.1]; exact (Array.getElem?_eq_some_iff.1 h2).1
  | dead => rw [hh] at ho; cases ho
  | fz rows => rw [hh] at ho; cases ho
  | mp l =>
    rw [hh] at this
    obtain ⟨b', es, clock, h1, h2, _⟩ := this
    rw [hn] at h1; simp only [Option.some.injEq, Prod.mk.injEq] at h1
    rw [h1.1]; exact (Array.getElem?_eq_some_iff.1 h2).1

/-- The whole: slots and heap. -/
def Ga (B : Base) (A : Nat → Prop) (t : Nat → AV) (h : Nat → HB) (a : Act) (w : World) : Prop :=
  a.defers = [] ∧ a.tmps.size = B.N ∧ ∃ F ρ, Hp B A h F ρ w ∧ ∀ i, M F ρ (a.tmps.getD i undef) (t i)

theorem Base.kept.setCell {B : Base} {w : World} (h : B.kept w) {p : Addr} (hp : B.new p.block) (u : Value) : B.kept (w.setCell p u) where
  os := h.os
  tape := h.tape
  output := h.output
  size := by simpa using h.size
  block b hb ho := by
    rw [Below.heap_setCell _ _ _ _ (by rintro rfl; rcases hp with hp | hp; · omega
                                       · exact ho hp)]
    exact h.block b hb ho

theorem Base.kept.alloc {B : Base} {w : World} (h : B.kept w) (o : Obj) : B.kept (w.alloc o) where
  os := h.os
  tape := h.tape
  output := h.output
  size := by have := h.size; simp; omega
  block b hb ho := by
    rw [Below.heap_alloc _ _ _ (by have := h.size; omega)]
    exact h.block b hb ho

theorem Base.kept.drew {B : Base} {w : World} (h : B.kept w) : B.kept w.drew := ⟨h.os, h.tape, h.output, h.size, h.block⟩

/-- Behind a law that ends in 'grownBy'. -/
theorem Base.kept.grown {B : Base} {w w' : World} {row : Option Nat} (h : B.kept w) (hg : w.grownBy w' row) (hr : ∀ k, row = some k → B.new k) : B.kept w' where
  os := hg.os.trans h.os
  tape := hg.tape.trans h.tape
  output := hg.output.trans h.output
  size := Nat.le_trans h.size hg.size
  block b hb ho := by
    rw [hg.block b (by have := h.size; omega) (fun e => by rcases hr b e.symm with h' | h'; · omega
                                                           · exact ho h')]
    exact h.block b hb ho

end Go.Ab
