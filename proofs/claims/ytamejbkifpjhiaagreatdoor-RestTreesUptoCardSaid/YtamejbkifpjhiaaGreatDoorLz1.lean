import Derived.Test.YtamejbkifpjhiaaGreatDoorLz0
import Derived.Orders
import Derived.Below
import Derived.ProofKit
import Derived.MapKept
namespace Go.Ab
open Go.RowKit
inductive AV where
 | v (x:Value)
 | agg (cs:List AV)
 | tup (cs:List AV)
 | sl (ex:Bool) (rows:List (List AV))
 | fp (rows:List (List AV)) (i j:Nat)
 | os (n off len:Nat)
 | op (n i j:Nat)
 | clo (fn:Fn) (first cap:List AV)
 | mp (n:Nat)
 | anyb
 | errv
 | junk
def QO:Value → Bool
 | .agg _ | .tuple _=>false
 | _=>true
abbrev Places:=Nat → Option (Option (Nat × Nat × Nat))
abbrev Still:=Nat → Option Obj
def noPlaces:Places:=fun _=>none
inductive M (F:Still):Places → Value → AV → Prop
 | v (ρ:Places) (x:Value) (h:QO x = true):M F ρ x (.v x)
 | agg (ρ:Places) (vs:List Value) (xs:List AV) (hl:vs.length = xs.length) (h : ∀ (i:Nat) v x,vs[i]? = some v → xs[i]? = some x → M F ρ v x):M F ρ (.agg vs.toArray) (.agg xs)
 | tup (ρ:Places) (vs:List Value) (xs:List AV) (hl:vs.length = xs.length) (h : ∀ (i:Nat) v x,vs[i]? = some v → xs[i]? = some x → M F ρ v x):M F ρ (.tuple vs.toArray) (.tup xs)
 | sl0 (ρ:Places) (a:Option Addr) (cap:Nat) (ex:Bool) (he:ex = true → cap = 0) (hn:a = none → cap = 0):M F ρ (.slice a 0 cap) (.sl ex [])
 | sl (ρ:Places) (b off cap:Nat) (c:Array Value) (e:TypeId) (fr:Nat × Nat) (ex:Bool) (k:Nat) (rows:List (List AV)) (hb:F b = some (.cells c e fr)) (hc:rows.length ≤ cap) (he:ex = true → cap = rows.length)
   (hs:off + rows.length * k ≤ c.size) (hk : ∀ row,row ∈ rows → row.length = k)
   (h : ∀ (i j:Nat) row x v,rows[i]? = some row → row[j]? = some x → c[off + i * k + j]? = some v → M F noPlaces v x):M F ρ (.slice (some ⟨b,off,none⟩) rows.length cap) (.sl ex rows)
 | fp (ρ:Places) (b off:Nat) (c:Array Value) (e:TypeId) (fr:Nat × Nat) (k:Nat) (rows:List (List AV)) (i j:Nat) (hb:F b = some (.cells c e fr)) (hi:i < rows.length)
   (hs:off + rows.length * k ≤ c.size) (hk : ∀ row,row ∈ rows → row.length = k)
   (h : ∀ (i j:Nat) row x v,rows[i]? = some row → row[j]? = some x → c[off + i * k + j]? = some v → M F noPlaces v x):M F ρ (.pointer (some ⟨b,off + i * k + j,none⟩)) (.fp rows i j)
 | os (ρ:Places) (n b k cap off len:Nat) (a:Addr) (hn:ρ n = some (some (b,k,cap))) (hl:off + len ≤ cap) (ha:off < cap → a = ⟨b,off * k,none⟩):M F ρ (.slice (some a) len (cap - off)) (.os n off len)
 | osn (ρ:Places) (n:Nat) (a:Option Addr) (hn:ρ n = some none):M F ρ (.slice a 0 0) (.os n 0 0)
 | op (ρ:Places) (n b k cap i j:Nat) (hn:ρ n = some (some (b,k,cap))):M F ρ (.pointer (some ⟨b,i * k + j,none⟩)) (.op n i j)
 | clo (ρ:Places) (fn:Fn) (vs us:List Value) (xs ys:List AV) (hl:vs.length = xs.length) (hm:us.length = ys.length) (h : ∀ (i:Nat) v x,vs[i]? = some v → xs[i]? = some x → M F ρ v x)
   (h' : ∀ (i:Nat) v x,us[i]? = some v → ys[i]? = some x → M F ρ v x):M F ρ (.func fn vs.toArray us.toArray) (.clo fn xs ys)
 | mp (ρ:Places) (n b:Nat) (hn:ρ n = some (some (b,0,0))):M F ρ (.map (some b)) (.mp n)
 | anyb (ρ:Places) (b:Bool):M F ρ (.bool b) .anyb
 | errv (ρ:Places) (t:TypeId) (u:Value):M F ρ (.iface t u) .errv
 | junk (ρ:Places) (v:Value):M F ρ v .junk
def Still.le (F G:Still):Prop := ∀ b o,F b = some o → G b = some o
def Places.le (ρ σ:Places):Prop := ∀ n c,ρ n = some c → σ n = some c
theorem Places.le_refl (ρ:Places):ρ.le ρ:=fun _ _ h=>h
theorem Still.le_refl (F:Still):F.le F:=fun _ _ h=>h
theorem wL (ρ:Places):noPlaces.le ρ:=fun _ _ h=>by cases h
theorem M.mono {F G:Still} {ρ σ:Places} (hF:F.le G) (hρ:ρ.le σ) {v:Value} {x:AV} (h:M F ρ v x):M G σ v x:=by
 induction h generalizing σ with
 | v ρ x h=>exact .v _ x h
 | agg ρ vs xs hl _ ih=>exact .agg _ vs xs hl fun i v x h1 h2=>ih i v x h1 h2 hρ
 | tup ρ vs xs hl _ ih=>exact .tup _ vs xs hl fun i v x h1 h2=>ih i v x h1 h2 hρ
 | sl0 ρ a cap ex he hn=>exact .sl0 _ a cap ex he hn
 | sl ρ b off cap c e fr ex k rows hb hc he hs hk _ ih=>exact .sl _ b off cap c e fr ex k rows (hF _ _ hb) hc he hs hk fun i j row x v h1 h2 h3=>ih i j row x v h1 h2 h3 (Places.le_refl _)
 | fp ρ b off c e fr k rows i j hb hi hs hk _ ih=>exact .fp _ b off c e fr k rows i j (hF _ _ hb) hi hs hk fun i j row x v h1 h2 h3=>ih i j row x v h1 h2 h3 (Places.le_refl _)
 | os ρ n b k cap off len a hn hl ha=>exact .os _ n b k cap off len a (hρ _ _ hn) hl ha
 | osn ρ n a hn=>exact .osn _ n a (hρ _ _ hn)
 | op ρ n b k cap i j hn=>exact .op _ n b k cap i j (hρ _ _ hn)
 | clo ρ fn vs us xs ys hl hm _ _ ih ih'=>exact .clo _ fn vs us xs ys hl hm (fun i v x h1 h2=>ih i v x h1 h2 hρ) (fun i v x h1 h2=>ih' i v x h1 h2 hρ)
 | mp ρ n b hn=>exact .mp _ n b (hρ _ _ hn)
 | anyb ρ b=>exact .anyb _ b
 | errv ρ t u=>exact .errv _ t u
 | junk ρ v=>exact .junk _ v
def AV.pure:AV → Bool
 | .v _ | .sl .. | .fp .. | .anyb | .errv | .junk=>true
 | .os .. | .op .. | .mp _=>false
 | .agg cs=>pureL cs
 | .tup cs=>pureL cs
 | .clo _ xs ys=>pureL xs && pureL ys
where
 pureL:List AV → Bool
  | []=>true
  | x :: l=>x.pure && pureL l
theorem zT {l:List AV} (h:AV.pure.pureL l = true) {i:Nat} {x:AV} (hx:l[i]? = some x):x.pure = true:=by
 induction l generalizing i with
 | nil=>simp at hx
 | cons y l ih =>
   simp only [AV.pure.pureL,Bool.and_eq_true] at h
   cases i with
   | zero=>simp at hx;exact hx ▸ h.1
   | succ i=>exact ih h.2 (by simpa using hx)
theorem M.moved {F:Still} {ρ:Places} (σ:Places) {v:Value} {x:AV} (h:M F ρ v x) (hx:x.pure = true):M F σ v x:=by
 induction h generalizing σ with
 | v ρ x h=>exact .v _ x h
 | agg ρ vs xs hl _ ih=>exact .agg _ vs xs hl fun i v x h1 h2=>ih i v x h1 h2 _ (zT (by simpa [AV.pure] using hx) h2)
 | tup ρ vs xs hl _ ih=>exact .tup _ vs xs hl fun i v x h1 h2=>ih i v x h1 h2 _ (zT (by simpa [AV.pure] using hx) h2)
 | sl0 ρ a cap ex he hn=>exact .sl0 _ a cap ex he hn
 | sl ρ b off cap c e fr ex k rows hb hc he hs hk h _=>exact .sl _ b off cap c e fr ex k rows hb hc he hs hk h
 | fp ρ b off c e fr k rows i j hb hi hs hk h _=>exact .fp _ b off c e fr k rows i j hb hi hs hk h
 | os ρ n b k cap off len a hn hl ha=>cases hx
 | osn ρ n a hn=>cases hx
 | op ρ n b k cap i j hn=>cases hx
 | clo ρ fn vs us xs ys hl hm _ _ ih ih' =>
   simp only [AV.pure,Bool.and_eq_true] at hx
   exact .clo _ fn vs us xs ys hl hm (fun i v x h1 h2=>ih i v x h1 h2 _ (zT hx.1 h2)) (fun i v x h1 h2=>ih' i v x h1 h2 _ (zT hx.2 h2))
 | mp ρ n b hn=>cases hx
 | anyb ρ b=>exact .anyb _ b
 | errv ρ t u=>exact .errv _ t u
 | junk ρ v=>exact .junk _ v
inductive MB where
 | map (l:List (List UInt8 × AV))
 | sit (s:List UInt8) (pos:Nat)
 | typ (e:TypeId) (k:Nat) (rows:List (List AV))
instance:Coe (List (List UInt8 × AV)) MB:=⟨MB.map⟩
inductive HB where
 | dead
 | own (ex:Bool) (k:Nat) (rows:List (List AV))
 | fz (rows:List (List AV))
 | mp (l:MB)
def HB.isOwn:HB → Bool
 | .own ..=>true
 | .mp _=>true
 | _=>false
def RowsAt (F:Still) (ρ:Places) (c:Array Value) (k:Nat) (rows:List (List AV)):Prop :=
 (∀ row,row ∈ rows → row.length = k) ∧ ∀ (i j:Nat) row x v,rows[i]? = some row → row[j]? = some x → c[i * k + j]? = some v → M F ρ v x
structure MapIn (F:Still) (ρ:Places) (es:Array MapEntry) (clock:Nat) (l:List (List UInt8 × AV)):Prop where
 len:es.size = l.length
 nodup:(l.map (·.1)).Nodup
 stamp:Go.MapKept.Stamped es clock
 ents : ∀ (i:Nat) e x,es[i]? = some e → l[i]? = some x → e.key = .string ⟨x.1.toArray⟩ ∧ M F ρ e.val x.2
def MapAt (F:Still) (ρ:Places) (es:Array MapEntry) (clock:Nat) (l:List (List UInt8 × AV)):Prop := ∃ l',l'.Perm l ∧ MapIn F ρ es clock l'
def MbAt (F:Still) (ρ:Places) (kc:Nat × Nat) (o:Obj):MB → Prop
 | .map l => ∃ es clock,o = .map es clock ∧ MapAt F ρ es clock l
 | .sit s pos=>o = .stringIter ⟨s.toArray⟩ pos
 | .typ e k rows => ∃ c,o = .cells c e (0,0) ∧ kc.1 = k ∧ c.size = kc.2 * k ∧ rows.length ≤ kc.2 ∧ RowsAt F ρ c k rows
def OwnAt (F:Still) (ρ:Places) (w:World) (n:Nat):HB → Prop
 | .dead=>True
 | .own ex k rows=>(ρ n = some none ∧ rows = []) ∨ ∃ b cap c e,ρ n = some (some (b,k,cap)) ∧ w.heap[b]? = some (.cells c e (0,0)) ∧ c.size = cap * k ∧ rows.length ≤ cap ∧ (ex = true → cap = rows.length) ∧ RowsAt F ρ c k rows
 | .fz rows=>(ρ n = some none ∧ rows = []) ∨ ∃ b k cap c e fr,ρ n = some (some (b,k,cap)) ∧ F b = some (.cells c e fr) ∧ rows.length * k ≤ c.size ∧ rows.length ≤ cap ∧ RowsAt F noPlaces c k rows
 | .mp l => ∃ b o, ∃ kc:Nat × Nat,ρ n = some (some (b,kc)) ∧ w.heap[b]? = some o ∧ MbAt F ρ kc o l
theorem MapAt.mono {F G:Still} {ρ σ:Places} (hF:F.le G) (hρ:ρ.le σ) {es:Array MapEntry} {clock:Nat} {l:List (List UInt8 × AV)} (h:MapAt F ρ es clock l):MapAt G σ es clock l:=by
 obtain ⟨l',hp,h⟩:=h
 exact ⟨l',hp,h.len,h.nodup,h.stamp,fun i e x h1 h2=>⟨(h.ents i e x h1 h2).1,(h.ents i e x h1 h2).2.mono hF hρ⟩⟩
theorem MbAt.mono {F G:Still} {ρ σ:Places} (hF:F.le G) (hρ:ρ.le σ) {kc:Nat × Nat} {o:Obj} {l:MB} (h:MbAt F ρ kc o l):MbAt G σ kc o l:=by
 cases l with
 | map l =>
   obtain ⟨es,clock,h1,h2⟩:=h
   exact ⟨es,clock,h1,h2.mono hF hρ⟩
 | sit s pos=>exact h
 | typ e k rows =>
   obtain ⟨c,h1,h2,h3,h4,h5⟩:=h
   exact ⟨c,h1,h2,h3,h4,h5.1,fun i j row x v q1 q2 q3=>(h5.2 i j row x v q1 q2 q3).mono hF hρ⟩
theorem RowsAt.mono {F G:Still} {ρ σ:Places} (hF:F.le G) (hρ:ρ.le σ) {c:Array Value} {k:Nat} {rows:List (List AV)} (h:RowsAt F ρ c k rows):RowsAt G σ c k rows :=
 ⟨h.1,fun i j row x v h1 h2 h3=>(h.2 i j row x v h1 h2 h3).mono hF hρ⟩
structure Base where
 w0:World
 F0:Still
 ρ0:Places
 O0:Nat → Prop
 N:Nat
 tab : ∀ b p,KN b = some p → ∃ cs e fr,p cs ∧ F0 b = some (.cells cs e fr)
 ds:List Deferred:=[]
def Base.new (B:Base) (b:Nat):Prop:=B.w0.heap.size ≤ b ∨ B.O0 b
structure Base.kept (B:Base) (w:World):Prop where
 os:w.os = B.w0.os
 tape:w.tape = B.w0.tape
 output:w.output = B.w0.output
 size:B.w0.heap.size ≤ w.heap.size
 block : ∀ b,b < B.w0.heap.size → ¬ B.O0 b → w.heap[b]? = B.w0.heap[b]?
structure Hp (B:Base) (A:Nat → Prop) (h:Nat → HB) (F:Still) (ρ:Places) (w:World):Prop where
 kept:B.kept w
 agree : ∀ b o,F b = some o → w.heap[b]? = some o
 grow:B.F0.le F
 fresh : ∀ b,F b ≠ none → B.F0 b ≠ none ∨ B.new b
 names:B.ρ0.le ρ
 dom : ∀ n,ρ n ≠ none → A n
 own : ∀ n,OwnAt F ρ w n (h n)
 new : ∀ n b c,(h n).isOwn = true → ρ n = some (some (b,c)) → F b = none ∧ B.new b
 sep : ∀ n m b c c',n ≠ m → (h n).isOwn = true → (h m).isOwn = true → ρ n = some (some (b,c)) → ρ m = some (some (b,c')) → False
theorem Hp.blk {B:Base} {A:Nat → Prop} {h:Nat → HB} {F:Still} {ρ:Places} {w:World} (hp:Hp B A h F ρ w) {n b:Nat} {c:Nat × Nat} (ho:(h n).isOwn = true) (hn:ρ n = some (some (b,c))):b < w.heap.size:=by
 have:=hp.own n
 cases hh:h n with
 | own ex k rows =>
   rw [hh] at this
   rcases this with ⟨h1,_⟩|⟨b',cap,cc,e,h1,h2,_⟩
   ·rw [hn] at h1;cases h1
   ·rw [hn] at h1;simp only [Option.some.injEq,Prod.mk.injEq] at h1
    rw [h1.1];exact (Array.getElem?_eq_some_iff.1 h2).1
 | dead=>rw [hh] at ho;cases ho
 | fz rows=>rw [hh] at ho;cases ho
 | mp l =>
   rw [hh] at this
   obtain ⟨b',es,clock,h1,h2,_⟩:=this
   rw [hn] at h1;simp only [Option.some.injEq,Prod.mk.injEq] at h1
   rw [h1.1];exact (Array.getElem?_eq_some_iff.1 h2).1
def Ga (B:Base) (A:Nat → Prop) (t:Nat → AV) (h:Nat → HB) (a:Act) (w:World):Prop :=
 a.defers = B.ds ∧ a.tmps.size = B.N ∧ ∃ F ρ,Hp B A h F ρ w ∧ ∀ i,M F ρ (a.tmps.getD i undef) (t i)
theorem Base.kept.setCell {B:Base} {w:World} (h:B.kept w) {p:Addr} (hp:B.new p.block) (u:Value):B.kept (w.setCell p u) where
 os:=h.os
 tape:=h.tape
 output:=h.output
 size:=by simpa using h.size
 block b hb ho:=by
  rw [Below.heap_setCell _ _ _ _ (by rintro rfl;rcases hp with hp|hp; · omega
                                     ·exact ho hp)]
  exact h.block b hb ho
theorem Base.kept.alloc {B:Base} {w:World} (h:B.kept w) (o:Obj):B.kept (w.alloc o) where
 os:=h.os
 tape:=h.tape
 output:=h.output
 size:=by have:=h.size;simp;omega
 block b hb ho:=by
  rw [Below.heap_alloc _ _ _ (by have:=h.size;omega)]
  exact h.block b hb ho
theorem Base.kept.drew {B:Base} {w:World} (h:B.kept w):B.kept w.drew:=⟨h.os,h.tape,h.output,h.size,h.block⟩
theorem Base.kept.grown {B:Base} {w w' : World} {row:Option Nat} (h:B.kept w) (hg:w.grownBy w' row) (hr : ∀ k,row = some k → B.new k):B.kept w' where
 os:=hg.os.trans h.os
 tape:=hg.tape.trans h.tape
 output:=hg.output.trans h.output
 size:=Nat.le_trans h.size hg.size
 block b hb ho:=by
  rw [hg.block b (by have:=h.size;omega) (fun e=>by rcases hr b e.symm with h'|h'; · omega
                                                    ·exact ho h')]
  exact h.block b hb ho
end Go.Ab
namespace Go.Ab
structure Eff where
 rt:List Nat
 rh:List Nat
 wt:Option Nat
 val:AV
 wh:List (Nat × HB)
 fr:List Nat
def y6:List (Nat × HB) → Nat → Option HB
 | [],_=>none
 | (m,x) :: l,n=>if m = n then some x else y6 l n
def Eff.wT (E:Eff) (i:Nat):Option AV:=if E.wt = some i then some E.val else none
def Eff.wH (E:Eff) (n:Nat):Option HB:=y6 E.wh n
def Eff.t (E:Eff) (t:Nat → AV):Nat → AV:=fun i=>(E.wT i).getD (t i)
def Eff.h (E:Eff) (h:Nat → HB):Nat → HB:=fun n=>(E.wH n).getD (h n)
def qap (P:Program) (Z:Base → List PanicEntry → Act → World → Prop) (ops:Array Oper) (N i:Nat) (t:Nat → AV) (h:Nat → HB) (E:Eff):Prop :=
 ∀ (B:Base) (A:Nat → Prop) (t' : Nat → AV) (h' : Nat → HB) (a:Act) (w:World) (Q:Exit → Act → World → Prop) (K:Act → World → Prop),
   B.N = N → (∀ ch a' w',Z B ch a' w' → Q (.panic ch) a' w') → (∃ m, ∀ n,A n → n < m) → Ga B A t' h' a w → (∀ j,j ∈ E.rt → t' j = t j) → (∀ n,n ∈ E.rh → h' n = h n) → (∀ n,n ∈ E.fr → ¬ A n) →
   (∀ a' w',Ga B (fun n=>A n ∨ n ∈ E.fr) (E.t t') (E.h h') a' w' → K a' w') → wpOp P ops Q i K a w
section run
variable {R V:Type} (W:Eff → R → Option V)
def run (D:Nat → Bool):Nat → List Eff → (R → V) → R → V
 | _,[],x=>x
 | i,E :: Es,x=>run D (i + 1) Es (fun r=>if D i then (W E r).getD (x r) else x r)
theorem wb (D D' : Nat → Bool) (r:R) : ∀ (Es:List Eff) (i:Nat) (x x' : R → V),x r = x' r → (∀ (j:Nat) E,Es[j]? = some E → W E r ≠ none → D (i + j) = D' (i + j)) → run W D i Es x r = run W D' i Es x' r
 | [],_,_,_,h,_=>h
 | E :: Es,i,x,x',h,hw=>by
   simp only [run]
   refine wb D D' r Es (i + 1) _ _ ?_ (fun j E' hj hn=>by have:=hw (j + 1) E' (by simpa using hj) hn;rw [show i + 1 + j = i + (j + 1) from by omega];exact this)
   show (if D i then (W E r).getD (x r) else x r) = if D' i then (W E r).getD (x' r) else x' r
   cases hwr:W E r with
   | none=>simp [h]
   | some u=>have:=hw 0 E rfl (by simp [hwr]);rw [Nat.add_zero] at this;rw [this,h]
theorem KH (D D' : Nat → Bool) (r:R) (m:Nat) (Em:Eff) : ∀ (Es:List Eff) (i:Nat) (x:R → V),Es[m]? = some Em → D (i + m) = false → D' (i + m) = true → (∀ j,j ≠ i + m → D' j = D j) →
  (∀ (j:Nat) E,Es[j]? = some E → m < j → W Em r ≠ none → W E r ≠ none → D (i + j) = false) → run W D' i Es x r = (W Em r).getD (run W D i Es x r)
 | [],_,_,h,_,_,_,_=>by simp at h
 | E :: Es,i,x,hm,h0,h1,hne,hlast=>by
   cases m with
   | zero =>
     simp only [List.getElem?_cons_zero,Option.some.injEq] at hm
     subst hm
     simp only [run]
     rw [Nat.add_zero] at h0 h1 hne
     simp only [h0,h1,if_true,Bool.false_eq_true,if_false]
     cases hw:W E r with
     | none=>simp only [Option.getD_none];exact wb W D' D r Es (i + 1) _ _ (by simp [hw]) (fun j E' hj hn=>hne _ (by omega))
     | some u =>
       simp only [Option.getD_some]
       have hz : ∀ (Es' : List Eff) (i' : Nat) (y:R → V),y r = u → (∀ (j:Nat) E',Es'[j]? = some E' → W E' r ≠ none → D' (i' + j) = false) → run W D' i' Es' y r = u:=by
        intro Es'
        induction Es' with
        | nil=>intro i' y hy _;exact hy
        | cons E' Es' ih =>
          intro i' y hy hall
          simp only [run]
          refine ih (i' + 1) _ ?_ (fun j E'' hj hn=>by have:=hall (j + 1) E'' (by simpa using hj) hn;rw [show i' + 1 + j = i' + (j + 1) from by omega];exact this)
          show (if D' i' then (W E' r).getD (y r) else y r) = u
          cases hw' : W E' r with
          | none=>simp [hy]
          | some u'=>have:=hall 0 E' rfl (by simp [hw']);rw [Nat.add_zero] at this;simp [this,hy]
       exact hz Es (i + 1) _ (by simp [hw]) (fun j E' hj hn=>by
        have:=hlast (j + 1) E' (by simpa using hj) (by omega) (by simp [hw]) hn
        rw [show i + 1 + j = i + (j + 1) from by omega,hne _ (by omega)];exact this)
   | succ m =>
     simp only [run]
     rw [wb W D' D' r Es (i + 1) _ (fun r=>if D i then (W E r).getD (x r) else x r) (by rw [hne i (by omega)]) (fun _ _ _ _=>rfl)]
     exact KH D D' r m Em Es (i + 1) _ (by simpa using hm) (by rw [show i + 1 + m = i + (m + 1) from by omega];exact h0) (by rw [show i + 1 + m = i + (m + 1) from by omega];exact h1)
      (fun j hj=>hne j (by omega)) (fun j E' hj hlt h2 h3=>by rw [show i + 1 + j = i + (j + 1) from by omega];exact hlast (j + 1) E' (by simpa using hj) (by omega) h2 h3)
end run
def wA:=run Eff.wT
def wz:=run Eff.wH
def upto (i:Nat):Nat → Bool:=fun j=>decide (j < i)
def qcA (n:Nat):List (Nat × HB) → Bool
 | []=>false
 | (m,_) :: l=>m == n || qcA n l
def kQ (E G:Eff):Bool :=
 (match E.wt with|some d=>G.rt.contains d || G.wt == some d|none=>false) || (match G.wt with|some d=>E.rt.contains d|none=>false) ||
 (E.wh.any fun x=>G.rh.contains x.1 || qcA x.1 G.wh) || (G.wh.any fun x=>E.rh.contains x.1)
def Qf (after:Array Edge) (acc:List Nat):Nat :=
 after.toList.foldl (fun s e=>if Region.binds .any e then s ||| 2 ^ e.on ||| acc.getD (acc.length - 1 - e.on) 0 else s) 0
def QC:List Oper → List Eff → (acc:List Nat) → (pre:List Eff) → Bool
 | [],[],_,_=>true
 | o :: os,E :: Es,acc,pre =>
   let b:=Qf o.after acc
   (o.after.toList.all fun e => !Region.binds .any e || decide (e.on < acc.length)) &&
   (pre.zipIdx.all fun x => !kQ x.1 E || b.testBit (pre.length - 1 - x.2)) && QC os Es (b :: acc) (E :: pre)
 | _,_,_,_=>false
theorem Vq (acc:List Nat) (D:Nat → Bool) (hacc : ∀ (j:Nat) b,acc[j]? = some b → D (acc.length - 1 - j) = true → ∀ k,b.testBit k = true → D k = true) (after:Array Edge)
  (hin:after.toList.all (fun e => !Region.binds .any e || decide (e.on < acc.length)) = true) (hD : ∀ e,e ∈ after → Region.binds .any e = true → D e.on = true) :
  ∀ k,(Qf after acc).testBit k = true → D k = true:=by
 unfold Qf
 have key : ∀ (l:List Edge) (s:Nat),(∀ e,e ∈ l → Region.binds .any e = true → D e.on = true ∧ e.on < acc.length) → (∀ k,s.testBit k = true → D k = true) →
   ∀ k,(l.foldl (fun s e=>if Region.binds .any e then s ||| 2 ^ e.on ||| acc.getD (acc.length - 1 - e.on) 0 else s) s).testBit k = true → D k = true:=by
  intro l
  induction l with
  | nil=>intro s _ hs k hk;exact hs k hk
  | cons e l ih =>
    intro s hl hs k hk
    simp only [List.foldl_cons] at hk
    refine ih _ (fun e' he'=>hl e' (List.mem_cons_of_mem _ he')) ?_ k hk
    intro k' hk'
    split at hk'
    ·rename_i hb
     obtain ⟨hd,hlt⟩:=hl e (List.mem_cons_self ..) hb
     simp only [Nat.testBit_or,Bool.or_eq_true] at hk'
     rcases hk' with (hk'|hk')|hk'
     ·exact hs k' hk'
     ·rw [Nat.testBit_two_pow] at hk'
      have:e.on = k':=by simpa using hk'
      exact this ▸ hd
     ·rw [List.getD_eq_getElem?_getD] at hk'
      cases hj:acc[acc.length - 1 - e.on]? with
      | none=>simp [hj] at hk'
      | some b =>
        simp only [hj,Option.getD_some] at hk'
        exact hacc _ b hj (by rw [show acc.length - 1 - (acc.length - 1 - e.on) = e.on from by omega];exact hd) k' hk'
    ·exact hs k' hk'
 refine key after.toList 0 ?_ (fun k hk=>by simp at hk)
 intro e he hb
 have h1:=List.all_eq_true.1 hin e he
 simp only [hb,Bool.not_true,Bool.false_or,decide_eq_true_eq] at h1
 exact ⟨hD e (by simpa using he) hb,h1⟩
end Go.Ab
namespace Go.Ab
def ki:Nat → List Nat → Bool
 | _,[]=>true
 | lo,n :: l=>decide (lo ≤ n) && ki (n + 1) l
theorem Vf : ∀ (l:List Nat) (lo:Nat),ki lo l = true → ∀ n,n ∈ l → lo ≤ n
 | a :: l,lo,h,n,hn=>by
   simp only [ki,Bool.and_eq_true,decide_eq_true_eq] at h
   rcases List.mem_cons.1 hn with rfl|hn
   ·exact h.1
   ·have:=Vf l (a + 1) h.2 n hn;omega
theorem XP : ∀ (l m:List Nat) (lo:Nat),ki lo (l ++ m) = true → ki lo l = true ∧ (∀ a b,a ∈ l → b ∈ m → a < b) ∧ ki lo m = true
 | [],m,lo,h=>⟨rfl,fun a b ha=>(by cases ha),h⟩
 | c :: l,m,lo,h=>by
   simp only [List.cons_append,ki,Bool.and_eq_true,decide_eq_true_eq] at h ⊢
   obtain ⟨h1,h2,h3⟩:=XP l m (c + 1) h.2
   refine ⟨⟨h.1,h1⟩,fun a b ha hb=>?_,?_⟩
   ·rcases List.mem_cons.1 ha with rfl|ha
    ·have:=Vf m (a + 1) h3 b hb;omega
    ·exact h2 a b ha hb
   ·have mono : ∀ (m:List Nat) (lo lo' : Nat),lo ≤ lo' → ki lo' m = true → ki lo m = true:=by
     intro m lo lo' hl hm
     cases m with
     | nil=>rfl
     | cons x m=>simp only [ki,Bool.and_eq_true,decide_eq_true_eq] at hm ⊢;exact ⟨by omega,hm.2⟩
    exact mono m lo (c + 1) (by omega) h3
theorem VM {Es:List Eff} {lo:Nat} (h:ki lo (Es.flatMap Eff.fr) = true) : ∀ (i j:Nat) E G n,Es[i]? = some E → Es[j]? = some G → n ∈ E.fr → n ∈ G.fr → i = j:=by
 induction Es generalizing lo with
 | nil=>intro i j E G n hi;simp at hi
 | cons X Es ih =>
   simp only [List.flatMap_cons] at h
   obtain ⟨_,h2,h3⟩:=XP _ _ _ h
   intro i j E G n hi hj hn hm
   have inn : ∀ (k:Nat) Y,Es[k]? = some Y → ∀ n,n ∈ Y.fr → n ∈ Es.flatMap Eff.fr:=fun k Y hk n hn=>List.mem_flatMap.2 ⟨Y,List.mem_of_getElem? hk,hn⟩
   cases i with
   | zero =>
     cases j with
     | zero=>rfl
     | succ j =>
       simp at hi hj;subst hi
       have:=h2 n n hn (inn j G hj n hm);omega
   | succ i =>
     cases j with
     | zero =>
       simp at hi hj;subst hj
       have:=h2 n n hm (inn i E hi n hn);omega
     | succ j=>simp at hi hj;exact congrArg (· + 1) (ih h3 i j E G n hi hj hn hm)
theorem Hp.weaken {B:Base} {A A' : Nat → Prop} {h:Nat → HB} {F:Still} {ρ:Places} {w:World} (hp:Hp B A h F ρ w) (hA : ∀ n,A n → A' n):Hp B A' h F ρ w :=
 { hp with dom:=fun n hn=>hA n (hp.dom n hn) }
theorem Ga.weaken {B:Base} {A A' : Nat → Prop} {t:Nat → AV} {h:Nat → HB} {a:Act} {w:World} (g:Ga B A t h a w) (hA : ∀ n,A n → A' n):Ga B A' t h a w :=
 let ⟨h1,h2,F,ρ,h3,h4⟩:=g
 ⟨h1,h2,F,ρ,h3.weaken hA,h4⟩
theorem Hp.drew {B:Base} {A:Nat → Prop} {h:Nat → HB} {F:Still} {ρ:Places} {w:World} (hp:Hp B A h F ρ w):Hp B A h F ρ w.drew :=
 { hp with kept:=hp.kept.drew,agree:=hp.agree,own:=fun n=>hp.own n }
theorem Ga.drew {B:Base} {A:Nat → Prop} {t:Nat → AV} {h:Nat → HB} {a:Act} {w:World} (g:Ga B A t h a w):Ga B A t h a w.drew :=
 let ⟨h1,h2,F,ρ,h3,h4⟩:=g
 ⟨h1,h2,F,ρ,h3.drew,h4⟩
theorem Yn : ∀ l:List Nat, ∃ m, ∀ n,n ∈ l → n < m
 | []=>⟨0,fun n h=>by cases h⟩
 | a :: l=>by
   obtain ⟨m,h⟩:=Yn l
   refine ⟨max m (a + 1),fun n hn=>?_⟩
   rcases List.mem_cons.1 hn with rfl|hn
   ·omega
   ·have:=h n hn;omega
theorem Vv {Es:List Eff} {lo:Nat} (D:Nat → Prop) : ∃ m, ∀ n,(n < lo ∨ ∃ (j:Nat) (E:Eff),D j ∧ Es[j]? = some E ∧ n ∈ E.fr) → n < m:=by
 obtain ⟨m,h⟩:=Yn (Es.flatMap Eff.fr)
 refine ⟨max m lo,fun n hn=>?_⟩
 rcases hn with hn|⟨j,E,_,hj,hE⟩
 ·omega
 ·have:=h n (List.mem_flatMap.2 ⟨E,List.mem_of_getElem? hj,hE⟩);omega
theorem qbv {P:Program} {Z:Base → List PanicEntry → Act → World → Prop} {ops:Array Oper} {N:Nat} {B:Base} {Q:Exit → Act → World → Prop} (hN:B.N = N) (hZ : ∀ ch a' w',Z B ch a' w' → Q (.panic ch) a' w') (Es:List Eff) (lo:Nat) (t0:Nat → AV) (h0:Nat → HB) (hlen:Es.length = ops.size)
  (hinc:ki lo (Es.flatMap Eff.fr) = true)
  (hok : ∀ (i:Nat) E,Es[i]? = some E → qap P Z ops N i (wA (upto i) 0 Es t0) (wz (upto i) 0 Es h0) E)
  (hq : ∀ a' w',Ga B (fun n=>n < lo ∨ n ∈ Es.flatMap Eff.fr) (wA (upto ops.size) 0 Es t0) (wz (upto ops.size) 0 Es h0) a' w' → Q .normal a' w') :
  ∀ (k m:Nat),m + k = ops.size → ∀ a w,Ga B (fun n=>n < lo ∨ ∃ (j:Nat) (E:Eff),j < m ∧ Es[j]? = some E ∧ n ∈ E.fr) (wA (upto m) 0 Es t0) (wz (upto m) 0 Es h0) a w →
    wpOps P ops Q (List.range' m k) a w:=by
 intro k
 induction k with
 | zero =>
   intro m hm a w g
   have hm' : m = ops.size:=by omega
   subst hm'
   exact hq a w (g.weaken fun n hn=>hn.imp (fun h=>h) fun ⟨j,E,_,hj,hE⟩=>List.mem_flatMap.2 ⟨E,List.mem_of_getElem? hj,hE⟩)
 | succ k ih =>
   intro m hm a w g
   rw [List.range'_succ,wpOps_cons]
   have hml:m < Es.length:=by omega
   have hE:Es[m]? = some Es[m]:=List.getElem?_eq_getElem hml
   refine hok m _ hE B _ _ _ a w Q _ hN hZ (Vv (fun j=>j < m)) g (fun _ _=>rfl) (fun _ _=>rfl) ?_ ?_
   ·intro n hn hA
    rcases hA with hA|⟨j,E,hj,hjE,hnE⟩
    ·exact Nat.not_lt.2 (Vf _ _ hinc n (List.mem_flatMap.2 ⟨_,List.mem_of_getElem? hE,hn⟩)) hA
    ·exact absurd (VM hinc _ _ _ _ n hE hjE hn hnE) (by omega)
   ·intro a' w' g'
    refine ih (m + 1) (by omega) a' w' ?_
    have ht : ∀ {R V:Type} (W:Eff → R → Option V) (x:R → V),(fun r=>(W Es[m] r).getD (run W (upto m) 0 Es x r)) = run W (upto (m + 1)) 0 Es x:=by
     intro R V W x;funext r
     refine (KH W (upto m) (upto (m + 1)) r m Es[m] Es 0 x hE (by simp [upto]) (by simp [upto]) (fun j hj=>?_) (fun j E' _ hlt _ _=>by simp [upto];omega)).symm
     have:j ≠ m:=by omega
     simp only [upto,decide_eq_decide];omega
    have e1:Es[m].t (wA (upto m) 0 Es t0) = wA (upto (m + 1)) 0 Es t0:=ht Eff.wT t0
    have e2:Es[m].h (wz (upto m) 0 Es h0) = wz (upto (m + 1)) 0 Es h0:=ht Eff.wH h0
    rw [e1,e2] at g'
    refine g'.weaken fun n hn=>?_
    rcases hn with (hn|⟨j,E,hj,h1,h2⟩)|hn
    ·exact .inl hn
    ·exact .inr ⟨j,E,by omega,h1,h2⟩
    ·exact .inr ⟨m,_,by omega,hE,hn⟩
theorem Kx : ∀ (os:List Oper) (Es:List Eff) (acc:List Nat) (pre:List Eff) (preos:List Oper),pre.length = acc.length → preos.length = acc.length →
  QC os Es acc pre = true →
  (∀ (D:Nat → Bool),(∀ (k:Nat) o,preos.reverse[k]? = some o → D k = true → ∀ e,e ∈ o.after → Region.binds .any e = true → D e.on = true) →
   ∀ (j:Nat) b,acc[j]? = some b → D (acc.length - 1 - j) = true → ∀ k,b.testBit k = true → D k = true) →
  os.length = Es.length ∧ ∀ (i:Nat) o E,os[i]? = some o → Es[i]? = some E →
   (∀ e,e ∈ o.after → Region.binds .any e = true → e.on < acc.length + i) ∧
   ∀ (D:Nat → Bool),(∀ (k:Nat) o,(preos.reverse ++ os)[k]? = some o → D k = true → ∀ e,e ∈ o.after → Region.binds .any e = true → D e.on = true) →
     (∀ e,e ∈ o.after → Region.binds .any e = true → D e.on = true) →
     ∀ (j:Nat) G,j < acc.length + i → (pre.reverse ++ Es)[j]? = some G → kQ G E = true → D j = true:=by
 intro os
 induction os with
 | nil =>
   intro Es acc pre preos _ _ h _
   cases Es with
   | nil=>exact ⟨rfl,fun i o E hi=>by simp at hi⟩
   | cons E Es=>simp [QC] at h
 | cons o os ih =>
   intro Es acc pre preos hp hpo h hacc
   cases Es with
   | nil=>simp [QC] at h
   | cons E Es =>
     simp only [QC,Bool.and_eq_true] at h
     obtain ⟨⟨hin,hpre⟩,hrest⟩:=h
     have hacc' : ∀ (D:Nat → Bool),(∀ (k:Nat) o',(o :: preos).reverse[k]? = some o' → D k = true → ∀ e,e ∈ o'.after → Region.binds .any e = true → D e.on = true) →
       ∀ (j:Nat) b,(Qf o.after acc :: acc)[j]? = some b → D ((Qf o.after acc :: acc).length - 1 - j) = true → ∀ k,b.testBit k = true → D k = true:=by
      intro D hD j b hj hDj k hk
      have hD' : ∀ (k:Nat) o',preos.reverse[k]? = some o' → D k = true → ∀ e,e ∈ o'.after → Region.binds .any e = true → D e.on = true:=by
       intro k o' hk
       refine hD k o' ?_
       rw [List.reverse_cons,List.getElem?_append_left (by have:=(List.getElem?_eq_some_iff.1 hk).1;exact this)]
       exact hk
      cases j with
      | zero =>
        simp only [List.getElem?_cons_zero,Option.some.injEq] at hj
        subst hj
        refine Vq acc D (hacc D hD') o.after hin ?_ k hk
        refine hD acc.length o ?_ (by simpa using hDj)
        rw [List.reverse_cons,List.getElem?_append_right (by simp [hpo])]
        simp [hpo]
      | succ j =>
        simp only [List.getElem?_cons_succ] at hj
        exact hacc D hD' j b hj (by rw [show acc.length - 1 - j = (Qf o.after acc :: acc).length - 1 - (j + 1) from by simp;omega];exact hDj) k hk
     obtain ⟨hl,hrec⟩:=ih Es (Qf o.after acc :: acc) (E :: pre) (o :: preos) (by simp [hp]) (by simp [hpo]) hrest hacc'
     refine ⟨by simp [hl],?_⟩
     intro i oi Ei hoi hEi
     cases i with
     | succ i =>
       simp only [List.getElem?_cons_succ] at hoi hEi
       obtain ⟨h1,h2⟩:=hrec i oi Ei hoi hEi
       refine ⟨fun e he hb=>by have:=h1 e he hb;simp at this;omega,?_⟩
       intro D hD hDi j G hj hG hc
       refine h2 D ?_ hDi j G (by simp;omega) ?_ hc
       ·simpa using hD
       ·simpa using hG
     | zero =>
       simp only [List.getElem?_cons_zero,Option.some.injEq] at hoi hEi
       subst hoi;subst hEi
       refine ⟨fun e he hb=>?_,?_⟩
       ·have h1:=List.all_eq_true.1 hin e (by simpa using he)
        simpa [hb] using h1
       ·intro D hD hDi j G hj hG hc
        have hj' : j < pre.length:=by omega
        rw [List.getElem?_append_left (by simpa using hj'),List.getElem?_reverse hj'] at hG
        have h1:=List.all_eq_true.1 hpre (G,pre.length - 1 - j) (List.mem_of_getElem? (i:=pre.length - 1 - j) (by simp [hG]))
        simp only [hc,Bool.not_true,Bool.false_or] at h1
        rw [show pre.length - 1 - (pre.length - 1 - j) = j from by omega] at h1
        refine Vq acc D (hacc D fun k o' hk=>hD k o' ?_) o.after hin hDi j h1
        rw [List.getElem?_append_left (by have:=(List.getElem?_eq_some_iff.1 hk).1;exact this)]
        exact hk
theorem qco {l:List Nat} {p q:Nat → Bool} {i:Nat} (hi:i ∈ l) (hp:p i = true) (hq:q i = false) (hqp : ∀ j,q j = true → p j = true):l.countP q + 1 ≤ l.countP p:=by
 induction l with
 | nil=>cases hi
 | cons x l ih =>
   have mono:l.countP q ≤ l.countP p:=List.countP_mono_left fun j _ h=>hqp j h
   simp only [List.countP_cons]
   rcases List.mem_cons.1 hi with rfl|hi
   ·simp [hp,hq];exact mono
   ·have:=ih hi
    cases hqx:q x with
    | true=>simp [hqp x hqx];exact this
    | false=>simp;omega
theorem qbG {E G:Eff} {r:Nat} (h:E.wT r ≠ none) (hr:r ∈ G.rt ∨ G.wT r ≠ none):kQ E G = true:=by
 have he:E.wt = some r:=by unfold Eff.wT at h;split at h<;>simp_all
 unfold kQ
 simp only [he]
 rcases hr with hr|hr
 ·simp [hr]
 ·have hg:G.wt = some r:=by unfold Eff.wT at hr;split at hr<;>simp_all
  simp [hg]
theorem qdF {E G:Eff} {r:Nat} (h:E.wT r ≠ none) (hr:r ∈ G.rt ∨ G.wT r ≠ none):kQ G E = true:=by
 have he:E.wt = some r:=by unfold Eff.wT at h;split at h<;>simp_all
 unfold kQ
 simp only [he]
 rcases hr with hr|hr
 ·simp [hr]
 ·have hg:G.wt = some r:=by unfold Eff.wT at hr;split at hr<;>simp_all
  simp [hg]
theorem Jy : ∀ (l:List (Nat × HB)) (n:Nat),y6 l n ≠ none → ∃ x,x ∈ l ∧ x.1 = n
 | [],n,h=>absurd rfl h
 | (m,x) :: l,n,h=>by
   unfold y6 at h
   split at h
   ·rename_i e;exact ⟨(m,x),List.mem_cons_self ..,e⟩
   ·obtain ⟨y,hy,e⟩:=Jy l n h;exact ⟨y,List.mem_cons_of_mem _ hy,e⟩
theorem Kp : ∀ (l:List (Nat × HB)) (n:Nat),y6 l n ≠ none → qcA n l = true
 | [],n,h=>absurd rfl h
 | (m,x) :: l,n,h=>by
   unfold y6 at h
   simp only [qcA,Bool.or_eq_true,beq_iff_eq]
   split at h
   ·exact .inl ‹_›
   ·exact .inr (Kp l n h)
theorem qbF {E G:Eff} {n:Nat} (h:E.wH n ≠ none) (hr:n ∈ G.rh ∨ G.wH n ≠ none):kQ E G = true:=by
 obtain ⟨x,hx,rfl⟩:=Jy _ _ h
 have:(E.wh.any fun x=>G.rh.contains x.1 || qcA x.1 G.wh) = true:=by
  refine List.any_eq_true.2 ⟨x,hx,?_⟩
  rcases hr with hr|hr
  ·simp [hr]
  ·simp [Kp _ _ hr]
 unfold kQ;rw [this];simp only [Bool.or_true,Bool.true_or]
theorem qdE {E G:Eff} {n:Nat} (h:E.wH n ≠ none) (hr:n ∈ G.rh ∨ G.wH n ≠ none):kQ G E = true:=by
 obtain ⟨x,hx,rfl⟩:=Jy _ _ h
 rcases hr with hr|hr
 ·have:(E.wh.any fun x=>G.rh.contains x.1) = true:=List.any_eq_true.2 ⟨x,hx,by simp [hr]⟩
  unfold kQ;rw [this];simp only [Bool.or_true]
 ·obtain ⟨y,hy,e⟩:=Jy _ _ hr
  have:(G.wh.any fun x=>E.rh.contains x.1 || qcA x.1 E.wh) = true:=List.any_eq_true.2 ⟨y,hy,by rw [e,Kp _ _ h];simp⟩
  unfold kQ;rw [this];simp only [Bool.or_true,Bool.true_or]
theorem qbc {P:Program} {Z:Base → List PanicEntry → Act → World → Prop} {id:Nat} {ops:Array Oper} {N:Nat} {B:Base} {Q:Exit → Act → World → Prop} {a:Act} {w:World} (hm:P.follows .mixedOrders = true) (hN:B.N = N) (hZ : ∀ ch a' w',Z B ch a' w' → Q (.panic ch) a' w') (Es:List Eff) (lo:Nat)
  (t0:Nat → AV) (h0:Nat → HB) (hord:QC ops.toList Es [] [] = true) (hinc:ki lo (Es.flatMap Eff.fr) = true)
  (hok : ∀ (i:Nat) E,Es[i]? = some E → qap P Z ops N i (wA (upto i) 0 Es t0) (wz (upto i) 0 Es h0) E)
  (hq : ∀ a' w',Ga B (fun n=>n < lo ∨ n ∈ Es.flatMap Eff.fr) (wA (upto ops.size) 0 Es t0) (wz (upto ops.size) 0 Es h0) a' w' → Q .normal a' w')
  (g:Ga B (· < lo) t0 h0 a w):(Code.region id ops true).wp P Q a w:=by
 obtain ⟨hlen,hspec⟩:=Kx ops.toList Es [] [] [] rfl rfl hord (fun D _ j b hj=>by simp at hj)
 simp only [List.length_nil,Nat.zero_add,List.reverse_nil,List.nil_append] at hspec
 have hlen' : Es.length = ops.size:=by simpa using hlen.symm
 refine wp_region_any hm ?_
 have key : ∀ (fuel:Nat) (listed:Array Bool) (a:Act) (w:World),listed.size = ops.size →
   (∀ (k:Nat) o,ops.toList[k]? = some o → listed.getD k false = true → ∀ e,e ∈ o.after → Region.binds .any e = true → listed.getD e.on false = true) →
   (List.range ops.size).countP (fun j => !listed.getD j true) ≤ fuel →
   Ga B (fun n=>n < lo ∨ ∃ (j:Nat) (E:Eff),listed.getD j false = true ∧ Es[j]? = some E ∧ n ∈ E.fr) (wA (fun j=>listed.getD j false) 0 Es t0) (wz (fun j=>listed.getD j false) 0 Es h0) a w →
   wpAny P .any ops Q fuel listed a w:=by
  intro fuel
  have hin : ∀ (listed:Array Bool) (j:Nat),listed.size = ops.size → j < ops.size → listed.getD j true = listed.getD j false:=by
   intro listed j hs hj
   simp [Array.getD,hs,hj]
  have hdone : ∀ (listed:Array Bool),listed.size = ops.size → Region.ready .any ops listed = [] → ∀ j,j < ops.size → listed.getD j false = true:=by
   intro listed hs hr j
   induction j using Nat.strongRecOn with
   | _ j ih =>
     intro hj
     cases hd:listed.getD j false with
     | true=>rfl
     | false =>
       exfalso
       have hoj:ops.toList[j]? = some ops.toList[j]:=List.getElem?_eq_getElem (by simpa using hj)
       have hEj:Es[j]? = some (Es[j]'(by omega)):=List.getElem?_eq_getElem (by omega)
       have:j ∈ Region.ready .any ops listed:=mem_ready.2 ⟨by rw [hin listed j hs hj];exact hd,ops.toList[j],by rw [← Array.getElem?_toList];exact hoj,fun e he hb=>by
        have hlt:=(hspec j _ _ hoj hEj).1 e he hb
        exact ih e.on hlt (by omega)⟩
       rw [hr] at this;cases this
  have hend : ∀ (listed:Array Bool) a w,listed.size = ops.size → Region.ready .any ops listed = [] →
    Ga B (fun n=>n < lo ∨ ∃ (j:Nat) (E:Eff),listed.getD j false = true ∧ Es[j]? = some E ∧ n ∈ E.fr) (wA (fun j=>listed.getD j false) 0 Es t0) (wz (fun j=>listed.getD j false) 0 Es h0) a w → Q .normal a w:=by
   intro listed a w hs hr g
   have hall:=hdone listed hs hr
   have ht : ∀ {R V:Type} (W:Eff → R → Option V) (x:R → V),run W (fun j=>listed.getD j false) 0 Es x = run W (upto ops.size) 0 Es x:=by
    intro R V W x;funext r
    refine wb W _ _ r Es 0 x x rfl fun j E hj _=>?_
    have hjl:j < ops.size:=by have:=(List.getElem?_eq_some_iff.1 hj).1;omega
    rw [Nat.zero_add]
    simp only [hall j hjl,upto,hjl,decide_true]
   have e1:wA (fun j=>listed.getD j false) 0 Es t0 = wA (upto ops.size) 0 Es t0:=ht Eff.wT t0
   have e2:wz (fun j=>listed.getD j false) 0 Es h0 = wz (upto ops.size) 0 Es h0:=ht Eff.wH h0
   rw [e1,e2] at g
   exact hq a w (g.weaken fun n hn=>hn.imp (fun h=>h) fun ⟨j,E,_,hj,hE⟩=>List.mem_flatMap.2 ⟨E,List.mem_of_getElem? hj,hE⟩)
  induction fuel with
  | zero =>
    intro listed a w hs hcl hcount g
    have hr:Region.ready .any ops listed = []:=by
     refine List.eq_nil_iff_forall_not_mem.2 fun j hj=>?_
     obtain ⟨hju,o,ho,_⟩:=mem_ready.1 hj
     have hjl:j < ops.size:=(Array.getElem?_eq_some_iff.1 ho).1
     have:=List.countP_pos_iff (p:=fun j => !listed.getD j true) |>.2 ⟨j,List.mem_range.2 hjl,by simp [hju]⟩
     omega
    exact ⟨hr,hend listed a w hs hr g⟩
  | succ fuel ih =>
    intro listed a w hs hcl hcount g
    refine ⟨fun hr=>hend listed a w hs hr g,fun i hi=>?_⟩
    obtain ⟨hiu,o,ho,hall⟩:=mem_ready.1 hi
    have hil:i < ops.size:=(Array.getElem?_eq_some_iff.1 ho).1
    have hD:listed.getD i false = false:=by rw [← hin listed i hs hil];exact hiu
    have hoi:ops.toList[i]? = some o:=by rw [Array.getElem?_toList];exact ho
    have hE:Es[i]? = some (Es[i]'(by omega)):=List.getElem?_eq_getElem (by omega)
    have hbef : ∀ (m:Nat) G,m < i → Es[m]? = some G → kQ G (Es[i]'(by omega)) = true → listed.getD m false = true:=fun m G hm hG hc =>
     (hspec i o _ hoi hE).2 (fun j=>listed.getD j false) hcl hall m G hm hG hc
    have haft : ∀ (m:Nat) G,i < m → Es[m]? = some G → kQ (Es[i]'(by omega)) G = true → listed.getD m false = false:=by
     intro m G hm hG hc
     cases hd:listed.getD m false with
     | false=>rfl
     | true =>
       exfalso
       have hml:m < ops.size:=by have:=(List.getElem?_eq_some_iff.1 hG).1;omega
       have hom:ops.toList[m]? = some ops.toList[m]:=List.getElem?_eq_getElem (by simpa using hml)
       have:=(hspec m _ _ hom hG).2 (fun j=>listed.getD j false) hcl (hcl m _ hom hd) i _ hm hE hc
       simp only [hD] at this
       cases this
    have hread : ∀ {R V:Type} (W:Eff → R → Option V) (x:R → V) (r:R),(∀ (m:Nat) G,Es[m]? = some G → W G r ≠ none → m ≠ i → kQ G (Es[i]'(by omega)) = true ∧ kQ (Es[i]'(by omega)) G = true) →
      run W (fun j=>listed.getD j false) 0 Es x r = run W (upto i) 0 Es x r:=by
     intro R V W x r hcl'
     refine wb W _ _ r Es 0 x x rfl fun m G hm hw=>?_
     rw [Nat.zero_add]
     by_cases hmi:m = i
     ·subst hmi;simp only [hD,upto,Nat.lt_irrefl,decide_false]
     ·obtain ⟨c1,c2⟩:=hcl' m G hm hw hmi
      rcases Nat.lt_or_ge m i with hlt|hge
      ·simp only [hbef m G hlt hm c1,upto,hlt,decide_true]
      ·simp only [haft m G (by omega) hm c2,upto,show ¬ m < i from by omega,decide_false]
    refine hok i _ hE B _ _ _ a w Q _ hN hZ (Vv (fun j=>listed.getD j false = true)) g ?_ ?_ ?_ ?_
    ·intro r hr
     exact hread Eff.wT t0 r fun m G _ hw _=>⟨qbG hw (.inl hr),qdF hw (.inl hr)⟩
    ·intro n hn
     exact hread Eff.wH h0 n fun m G _ hw _=>⟨qbF hw (.inl hn),qdE hw (.inl hn)⟩
    ·intro n hn hA
     rcases hA with hA|⟨j,G,hj,hjG,hnG⟩
     ·exact Nat.not_lt.2 (Vf _ _ hinc n (List.mem_flatMap.2 ⟨_,List.mem_of_getElem? hE,hn⟩)) hA
     ·have:=VM hinc _ _ _ _ n hE hjG hn hnG
      subst this
      rw [hD] at hj;cases hj
    ·intro a' w' g'
     have hset : ∀ j,j ≠ i → (listed.setIfInBounds i true).getD j false = listed.getD j false:=fun j hj=>getD_set_ne false (Ne.symm hj)
     have hseti:(listed.setIfInBounds i true).getD i false = true:=by simp [hs,hil]
     refine ih (listed.setIfInBounds i true) a' w' (by simp [hs]) ?_ ?_ ?_
     ·intro k o' hk hkd e he hb
      by_cases hki:k = i
      ·subst hki
       rw [hoi] at hk;injection hk with hk;subst hk
       exact getD_set_true (hall e he hb)
      ·rw [hset k hki] at hkd
       exact getD_set_true (hcl k o' hk hkd e he hb)
     ·have:=qco (l:=List.range ops.size) (p:=fun j => !listed.getD j true) (q:=fun j => !(listed.setIfInBounds i true).getD j true) (i:=i) (List.mem_range.2 hil) (by simp [hiu])
       (by rw [hin _ _ (by simp [hs]) hil,hseti];rfl) (fun j hj=>by
        by_cases hji:j = i
        ·subst hji;simp [hiu]
        ·rw [getD_set_ne true (Ne.symm hji)] at hj;exact hj)
      omega
     ·have hadd : ∀ {R V:Type} (W:Eff → R → Option V) (x:R → V),(∀ (m:Nat) G r,Es[m]? = some G → W (Es[i]'(by omega)) r ≠ none → W G r ≠ none → kQ (Es[i]'(by omega)) G = true) →
        (fun r=>(W (Es[i]'(by omega)) r).getD (run W (fun j=>listed.getD j false) 0 Es x r)) = run W (fun j=>(listed.setIfInBounds i true).getD j false) 0 Es x:=by
       intro R V W x hcl';funext r
       refine (KH W (fun j=>listed.getD j false) (fun j=>(listed.setIfInBounds i true).getD j false) r i _ Es 0 x hE (by rw [Nat.zero_add];exact hD) (by rw [Nat.zero_add];exact hseti)
        (fun j hj=>hset j (by omega)) (fun m G hG hlt h1 h2=>?_)).symm
       rw [Nat.zero_add]
       exact haft m G hlt hG (hcl' m G r hG h1 h2)
      have e1:Eff.t (Es[i]'(by omega)) (wA (fun j=>listed.getD j false) 0 Es t0) = wA (fun j=>(listed.setIfInBounds i true).getD j false) 0 Es t0 :=
       hadd Eff.wT t0 fun m G r _ h1 h2=>qbG h1 (.inr h2)
      have e2:Eff.h (Es[i]'(by omega)) (wz (fun j=>listed.getD j false) 0 Es h0) = wz (fun j=>(listed.setIfInBounds i true).getD j false) 0 Es h0 :=
       hadd Eff.wH h0 fun m G r _ h1 h2=>qbF h1 (.inr h2)
      rw [e1,e2] at g'
      refine g'.weaken fun n hn=>?_
      rcases hn with (hn|⟨j,G,hj,h1,h2⟩)|hn
      ·exact .inl hn
      ·exact .inr ⟨j,G,getD_set_true hj,h1,h2⟩
      ·exact .inr ⟨i,_,hseti,hE,hn⟩
 refine key ops.size (Array.replicate ops.size false) a _ (by simp) ?_ ?_ ?_
 ·intro k o _ hk;simp [Array.getD] at hk
 ·exact Nat.le_trans (List.countP_le_length) (by simp)
 ·have hz : ∀ {R V:Type} (W:Eff → R → Option V) (x:R → V),x = run W (fun j=>(Array.replicate ops.size false).getD j false) 0 Es x:=by
   intro R V W x;funext r
   have : ∀ (Es:List Eff) (i:Nat) (y:R → V),run W (fun _=>false) i Es y r = y r:=by
    intro Es
    induction Es with
    | nil=>intro i y;rfl
    | cons E Es ih=>intro i y;simp only [run];rw [ih];simp
   rw [show (fun j=>(Array.replicate ops.size false).getD j false) = (fun _=>false) from by funext j;simp [Array.getD]]
   exact (this Es 0 x).symm
  have e1:t0 = wA (fun j=>(Array.replicate ops.size false).getD j false) 0 Es t0:=hz Eff.wT t0
  have e2:h0 = wz (fun j=>(Array.replicate ops.size false).getD j false) 0 Es h0:=hz Eff.wH h0
  have g':=g.drew
  rw [e1,e2] at g'
  exact g'.weaken fun n hn => .inl hn
end Go.Ab
