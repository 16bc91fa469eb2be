import Derived.Test.YtamejbkifpjhiaaGreatDoorLz2
import Derived.Laws.CopyRow
import Derived.Laws.Tables
import Derived.Laws.Entries
set_option linter.unusedSimpArgs false
namespace Go.Ab
open Go.RowKit
inductive TK where
 | int (k:IntKind)
 | bool
 | string
 | slice (e:Nat)
 | pointer (e:Nat)
 | array (n e:Nat)
 | struct (fs:List (Nat × Nat))
 | map (k e:Nat)
 | other
structure TRec where
 kind:TK
 agg:Bool
 size:Nat
 bytes:Nat
 zero:List Value
def vE:TypeDesc → TK
 | .int k => .int k
 | .bool => .bool
 | .string => .string
 | .slice e => .slice e
 | .pointer e => .pointer e
 | .array n e => .array n e
 | .struct fs => .struct (fs.toList.map fun f=>(f.offset,f.type))
 | .map k e => .map k e
 | _ => .other
def Ko:TypeDesc → Bool
 | .struct _ | .array _ _=>true
 | _=>false
def QQ (P:Program) (T:Nat):Option TRec :=
 match P.underlying T,P.info? T with
 | some d,some i=>i.zero.map fun z => { kind:=vE d,agg:=Ko d,size:=i.size,bytes:=i.bytes,zero:=z.cells.toList }
 | _,_=>none
theorem yG {P:Program} {T:Nat} {r:TRec} (h:QQ P T = some r) : ∃ d i z,P.underlying T = some d ∧ P.info? T = some i ∧ i.zero = some z ∧ r.kind = vE d ∧ r.agg = Ko d ∧ i.size = r.size ∧ i.bytes = r.bytes ∧ z.cells = r.zero.toArray:=by
 unfold QQ at h
 split at h
 ·rename_i d i hd hi
  cases hz:i.zero with
  | none=>simp [hz] at h
  | some z =>
    simp only [hz,Option.map_some,Option.some.injEq] at h
    subst h
    exact ⟨d,i,z,hd,hi,hz,rfl,rfl,rfl,rfl,by simp⟩
 ·cases h
theorem JJ {P:Program} {T:Nat} {r:TRec} (h:QQ P T = some r) (w:World):(isAgg T).run P w = .ok r.agg w:=by
 obtain ⟨d,i,z,hd,_,_,_,ha,_⟩:=yG h
 unfold isAgg
 simp only [Sem.run_bind,run_underlying hd,Result.andThen_ok]
 rw [ha]
 cases d<;>rfl
theorem xE {P:Program} {T:Nat} {r:TRec} (h:QQ P T = some r) (w:World):(sizeOf T).run P w = .ok r.size w:=by
 obtain ⟨d,i,z,_,hi,_,_,_,hs,_⟩:=yG h
 simp [sizeOf,typeInfo,hi,hs]
theorem QM {P:Program} {T:Nat} {r:TRec} (h:QQ P T = some r) (w:World) : ∃ z,(zeroValue T).run P w = .ok z w ∧ z.cells = r.zero.toArray:=by
 obtain ⟨d,i,z,_,hi,hz,_,_,_,_,hc⟩:=yG h
 exact ⟨z,by simp [zeroValue,typeInfo,hi,hz],hc⟩
def cut (r:TRec) (row:List AV) (j:Nat):Option AV :=
 if r.agg then (if j + r.size ≤ row.length then some (.agg ((row.drop j).take r.size)) else none) else row[j]?
theorem getElem?_drop_take {α:Type} (l:List α) (a n i:Nat) (h:i < n):((l.drop a).take n)[i]? = l[a + i]?:=by
 rw [List.getElem?_take,if_pos h,List.getElem?_drop]
theorem YV {P:Program} {F:Still} {ρ:Places} {w:World} {b:Nat} {c:Array Value} {e:TypeId} {fr:Nat × Nat} (hb:w.heap[b]? = some (.cells c e fr)) {T:Nat} {r:TRec} (hT:QQ P T = some r)
  {base j:Nat} {row:List AV} {x:AV} (hs:base + row.length ≤ c.size) (hrow : ∀ (j:Nat) x v,row[j]? = some x → c[base + j]? = some v → M F ρ v x) (hx:cut r row j = some x) :
  ∃ v,(loadVar T ⟨b,base + j,none⟩).run P w = .ok v w ∧ M F ρ v x:=by
 have hcell : ∀ i,w.cell? ⟨b,i,none⟩ = c[i]?:=fun i=>by simp [World.cell?,hb]
 unfold cut at hx
 unfold loadVar
 cases hagg:r.agg with
 | false =>
   simp only [hagg,Bool.false_eq_true,if_false] at hx
   have hj:j < row.length:=(List.getElem?_eq_some_iff.1 hx).1
   have hv:c[base + j]? = some (c[base + j]'(by omega)):=Array.getElem?_eq_getElem (by omega)
   refine ⟨_,?_,hrow j x _ hx hv⟩
   simp only [Sem.run_bind,JJ hT,hagg,Result.andThen_ok,Bool.false_eq_true,if_false]
   simp [load,Sem.run,hcell,hv]
 | true =>
   simp only [hagg,if_true] at hx
   split at hx
   ·rename_i hle
    simp only [Option.some.injEq] at hx
    subst hx
    let cs:=(c.toList.drop (base + j)).take r.size
    have hlen:cs.length = r.size:=by simp [cs];omega
    have hload:=run_loadCells_list (P:=P) w ⟨b,base + j,none⟩ cs (fun i v hi=>by
     have hil:i < r.size:=by have:=(List.getElem?_eq_some_iff.1 hi).1;omega
     rw [getElem?_drop_take _ _ _ _ hil] at hi
     have:(⟨b,base + j,none⟩ : Addr).add i = ⟨b,base + j + i,none⟩:=by unfold Addr.add;split<;>simp_all
     rw [this,hcell];simpa using hi)
    rw [hlen] at hload
    refine ⟨.agg cs.toArray,?_,.agg _ cs _ (by rw [hlen];simp;omega) ?_⟩
    ·simp only [Sem.run_bind,JJ hT,hagg,Result.andThen_ok,if_true,xE hT,hload]
     rfl
    ·intro i v y hv hy
     have hil:i < r.size:=by have:=(List.getElem?_eq_some_iff.1 hv).1;omega
     rw [getElem?_drop_take _ _ _ _ hil] at hv hy
     exact hrow (j + i) y v hy (by rw [← Nat.add_assoc];simpa using hv)
   ·cases hx
def yo:AV → Bool
 | .agg _ | .tup _ | .junk=>false
 | _=>true
theorem M.oneCell {F:Still} {ρ:Places} {v:Value} {x:AV} (h:M F ρ v x) (hx:yo x = true):v.oneCell' = true:=by
 cases h with
 | v _ x h=>cases v<;>simp_all [QO,Value.oneCell']
 | _=>first|rfl|(simp [yo] at hx)
def cellsOf:AV → List AV
 | .agg xs=>xs
 | x => [x]
theorem M.cells {F:Still} {ρ:Places} {v:Value} {x:AV} (h:M F ρ v x) (hx:(cellsOf x).all yo = true):v.cells.toList.length = (cellsOf x).length ∧ (∀ u,u ∈ v.cells.toList → u.oneCell' = true) ∧
  ∀ (i:Nat) u y,v.cells.toList[i]? = some u → (cellsOf x)[i]? = some y → M F ρ u y:=by
 cases hxa:x with
 | agg xs =>
   subst hxa
   obtain ⟨vs,rfl,hl,hm⟩:=h.agg_inv
   refine ⟨by simpa [Value.cells,cellsOf] using hl,?_,by simpa [Value.cells,cellsOf] using hm⟩
   intro u hu
   simp only [Value.cells] at hu
   obtain ⟨i,hi⟩:=List.mem_iff_getElem?.1 hu
   have hil:i < xs.length:=by have:=(List.getElem?_eq_some_iff.1 hi).1;omega
   have hy:xs[i]? = some xs[i]:=List.getElem?_eq_getElem hil
   exact (hm i u _ hi hy).oneCell (List.all_eq_true.1 hx _ (List.mem_of_getElem? hy))
 | _ =>
   all_goals
    have he:cellsOf x = [x]:=by rw [hxa];rfl
    have hc:yo x = true:=by rw [he] at hx;simpa using hx
    have h1:=h.oneCell hc
    have hvc:v.cells = #[v]:=by cases v<;>simp_all [Value.cells,Value.oneCell']
    rw [← hxa,hvc,he]
    refine ⟨rfl,by simpa using h1,?_⟩
    intro i u y hu hy
    cases i with
    | zero=>simp at hu hy;subst hu;subst hy;exact h
    | succ i=>simp at hu
theorem Hp.write {B:Base} {A:Nat → Prop} {h:Nat → HB} {F:Still} {ρ:Places} {w w' : World} (hp:Hp B A h F ρ w) (m:Nat) (pl:Option (Nat × Nat × Nat)) (X:HB) (ks tb:Option Nat)
  (hm:ρ m = none ∨ ρ m = some pl) (kept:B.kept w') (ht : ∀ b,tb = some b → ∃ n0 c,(n0 = m ∨ ks = some n0) ∧ (h n0).isOwn = true ∧ ρ n0 = some (some (b,c)))
  (hw : ∀ b,b < w.heap.size → tb ≠ some b → w'.heap[b]? = w.heap[b]?) (hpl : ∀ b c,pl = some (b,c) → tb = some b ∨ w.heap.size ≤ b)
  (own:OwnAt F (fun n=>if n = m then some pl else ρ n) w' m X) :
  Hp B (fun n=>A n ∨ n = m) (fun n=>if n = m then X else if ks = some n then .dead else h n) F (fun n=>if n = m then some pl else ρ n) w':=by
 have hle:ρ.le (fun n=>if n = m then some pl else ρ n):=by
  intro n c hn
  by_cases hnm:n = m
  ·subst hnm
   rcases hm with hm|hm
   ·rw [hm] at hn;cases hn
   ·rw [hm] at hn;simpa using hn
  ·simpa [hnm] using hn
 have hFlt : ∀ b o,F b = some o → b < w.heap.size:=fun b o hb=>(Array.getElem?_eq_some_iff.1 (hp.agree b o hb)).1
 have hFt : ∀ b,tb = some b → F b = none:=by
  intro b hb
  obtain ⟨n0,c,_,h2,h3⟩:=ht b hb
  exact (hp.new n0 b c h2 h3).1
 have hblk : ∀ n b c,(h n).isOwn = true → ρ n = some (some (b,c)) → b < w.heap.size:=by
  intro n b c ho hn
  have:=hp.own n
  cases hh:h n with
  | own ex k rows =>
    rw [hh] at this
    rcases this with ⟨h1,_⟩|⟨b',cap,cc,e,h1,h2,_⟩
    ·rw [hn] at h1;cases h1
    ·rw [hn] at h1;simp only [Option.some.injEq,Prod.mk.injEq] at h1
     rw [h1.1];exact (Array.getElem?_eq_some_iff.1 h2).1
  | dead=>rw [hh] at ho;cases ho
  | fz rows=>rw [hh] at ho;cases ho
  | mp l =>
    rw [hh] at this
    obtain ⟨b',es,clock,h1,h2,_⟩:=this
    rw [hn] at h1;simp only [Option.some.injEq,Prod.mk.injEq] at h1
    rw [h1.1];exact (Array.getElem?_eq_some_iff.1 h2).1
 have hother : ∀ n b c,n ≠ m → ks ≠ some n → (h n).isOwn = true → ρ n = some (some (b,c)) → tb ≠ some b:=by
  intro n b c h1 h2 h3 h4 h5
  obtain ⟨n0,c',hn0,h6,h7⟩:=ht b h5
  have hne:n ≠ n0:=by
   rintro rfl
   rcases hn0 with hn0|hn0
   ·exact h1 hn0
   ·exact h2 hn0
  exact hp.sep n n0 b c c' hne h3 h6 h4 h7
 refine ⟨kept,?_,hp.grow,hp.fresh,?_,?_,?_,?_,?_⟩
 ·intro b o hb
  rw [hw b (hFlt b o hb) (fun e=>by rw [hFt b e] at hb;cases hb)]
  exact hp.agree b o hb
 ·exact fun n c hn=>hle n c (hp.names n c hn)
 ·intro n hn
  by_cases hnm:n = m
  ·exact .inr hnm
  ·simp only [hnm,if_false] at hn;exact .inl (hp.dom n hn)
 ·intro n
  by_cases hnm:n = m
  ·subst hnm;simpa using own
  ·simp only [hnm,if_false]
   by_cases hk:ks = some n
   ·simp [hk,OwnAt]
   ·simp only [hk,if_false]
    have h1:=hp.own n
    cases hh:h n with
    | dead=>trivial
    | fz rows =>
      rw [hh] at h1
      simpa [OwnAt,hnm] using h1
    | mp l =>
      rw [hh] at h1
      obtain ⟨b,es,clock,h1,h2,h3⟩:=h1
      refine ⟨b,es,clock,by simpa [hnm] using h1,?_,h3.mono (Still.le_refl F) hle⟩
      rw [hw b (Array.getElem?_eq_some_iff.1 h2).1 (hother n b _ hnm hk (by rw [hh];rfl) h1)]
      exact h2
    | own ex' k' rows' =>
      rw [hh] at h1
      rcases h1 with ⟨h1,h2⟩|⟨b,cap,c,e,h1,h2,h3,h4,h5,h6⟩
      ·exact .inl ⟨by simpa [hnm] using h1,h2⟩
      ·refine .inr ⟨b,cap,c,e,by simpa [hnm] using h1,?_,h3,h4,h5,h6.mono (Still.le_refl F) hle⟩
       rw [hw b (Array.getElem?_eq_some_iff.1 h2).1 (hother n b _ hnm hk (by rw [hh];rfl) h1)]
       exact h2
 ·intro n b c ho hn
  by_cases hnm:n = m
  ·subst hnm
   simp only [if_true,Option.some.injEq] at hn
   rcases hpl b c hn with h1|h1
   ·obtain ⟨n0,c',_,h6,h7⟩:=ht b h1
    exact hp.new n0 b c' h6 h7
   ·refine ⟨?_,.inl (Nat.le_trans hp.kept.size h1)⟩
    cases hF:F b with
    | none=>rfl
    | some o=>have:=hFlt b o hF;omega
  ·simp only [hnm,if_false] at ho hn
   by_cases hk:ks = some n
   ·simp [hk,HB.isOwn] at ho
   ·simp only [hk,if_false] at ho
    exact hp.new n b c ho hn
 ·have one : ∀ n b c c',n ≠ m → (if n = m then X else if ks = some n then .dead else h n).isOwn = true → pl = some (b,c) → ρ n = some (some (b,c')) → False:=by
   intro n b c c' hnm ho hpb hn
   simp only [hnm,if_false] at ho
   by_cases hk:ks = some n
   ·simp [hk,HB.isOwn] at ho
   ·simp only [hk,if_false] at ho
    rcases hpl b c hpb with h1|h1
    ·exact hother n b c' hnm hk ho hn h1
    ·have:=hblk n b c' ho hn;omega
  intro n n' b c c' hne ho ho' hn hn'
  by_cases hnm:n = m
  ·subst hnm
   simp only [if_true,Option.some.injEq] at hn
   have hnm' : n' ≠ n:=Ne.symm hne
   simp only [hnm',if_false] at hn'
   exact one n' b c c' hnm' (by simpa [hnm'] using ho') hn hn'
  ·by_cases hnm' : n' = m
   ·subst hnm'
    simp only [if_true,Option.some.injEq] at hn'
    simp only [hnm,if_false] at hn
    exact one n b c' c hnm (by simpa [hnm] using ho) hn' hn
   ·simp only [hnm,hnm',if_false] at ho ho' hn hn'
    by_cases hk:ks = some n
    ·simp [hk,HB.isOwn] at ho
    ·by_cases hk' : ks = some n'
     ·simp [hk',HB.isOwn] at ho'
     ·simp only [hk,hk',if_false] at ho ho'
      exact hp.sep n n' b c c' hne ho ho' hn hn'
theorem wX {P:Program} {N:Nat} {o:Oper} {t:Nat → AV} {h:Nat → HB} {x:AV} (rt rh:List Nat) (m:Nat) (X:HB) (ks:List Nat) (fr:List Nat)
  (hN : ∀ d,o.dst = some d → d < N) (hfr:fr = [m] ∨ fr = []) (hks:ks.length ≤ 1)
  (hrun : ∀ B A h' F ρ (a:Act) (w:World),Hp B A h' F ρ w → (∀ j,j ∈ rt → M F ρ (a.tmps.getD j undef) (t j)) → (∀ n,n ∈ rh → h' n = h n) → (∀ n,n ∈ fr → ρ n = none) →
   ∃ v w' pl tb,(execOp a.eval o).run P w = .ok v w' ∧ (v = .skip ∧ o.dst = none ∨ ∃ u,v = .value u ∧ M F (fun n=>if n = m then some pl else ρ n) u x) ∧
     (ρ m = none ∨ ρ m = some pl) ∧ B.kept w' ∧ (∀ b,tb = some b → ∃ n0 c,(n0 = m ∨ ks[0]? = some n0) ∧ (h' n0).isOwn = true ∧ ρ n0 = some (some (b,c))) ∧
     (∀ b,b < w.heap.size → tb ≠ some b → w'.heap[b]? = w.heap[b]?) ∧ (∀ b c,pl = some (b,c) → tb = some b ∨ w.heap.size ≤ b) ∧
     OwnAt F (fun n=>if n = m then some pl else ρ n) w' m X ∧ (fr = [] → ρ m ≠ none)) :
  ja P N o t h ⟨rt,rh,o.dst,x,(m,X) :: ks.map fun n=>(n,.dead),fr⟩:=by
 intro B A t' h' a w Q K hBN g hrt hrh hfrA hK
 obtain ⟨g1,g2,F,ρ,hp,g4⟩:=g
 have hnone : ∀ n,n ∈ fr → ρ n = none:=fun n hn=>by
  cases hρ:ρ n with
  | none=>rfl
  | some c=>exact absurd (hp.dom n (by rw [hρ];simp)) (hfrA n hn)
 obtain ⟨v,w',pl,tb,hv,hres,c1,c2,c3,c4,c5,c6,c7⟩:=hrun B A h' F ρ a w hp (fun j hj=>(hrt j hj) ▸ g4 j) (fun n hn=>hrh n hn) hnone
 have hp':=hp.write m pl X ks[0]? tb c1 c2 c3 c4 c5 c6
 have hle:ρ.le (fun n=>if n = m then some pl else ρ n):=by
  intro n c hn
  by_cases hnm:n = m
  ·subst hnm
   rcases c1 with hm|hm
   ·rw [hm] at hn;cases hn
   ·rw [hm] at hn;simpa using hn
  ·simpa [hnm] using hn
 have hH:(Eff.h ⟨rt,rh,o.dst,x,(m,X) :: ks.map fun n=>(n,.dead),fr⟩ h') = fun n=>if n = m then X else if ks[0]? = some n then .dead else h' n:=by
  funext n
  unfold Eff.h Eff.wH
  simp only [y6]
  by_cases hnm:n = m
  ·subst hnm;simp
  ·simp only [show ¬ m = n from fun e=>hnm e.symm,hnm,if_false]
   match ks,hks with
   | [],_=>simp [y6]
   | [q],_ =>
     simp only [List.map_cons,List.map_nil,y6,List.getElem?_cons_zero,Option.some.injEq]
     by_cases hq:q = n<;>simp [hq]
   | _ :: _ :: _,hl=>simp at hl
 have hdom : ∀ n,(A n ∨ n = m) → A n ∨ n ∈ fr:=by
  intro n hn
  rcases hn with hn|hn
  ·exact .inl hn
  ·rcases hfr with e|e
   ·exact .inr (by rw [e,hn];simp)
   ·exact .inl (hn ▸ hp.dom m (c7 e))
 have hfin : ∀ a',a'.defers = B.ds → a'.tmps.size = B.N → (∀ i,M F (fun n=>if n = m then some pl else ρ n) (a'.tmps.getD i undef) (Eff.t ⟨rt,rh,o.dst,x,(m,X) :: ks.map fun n=>(n,.dead),fr⟩ t' i)) → K a' w':=by
  intro a' h1 h2 h3
  refine hK a' w' ⟨h1,h2,F,_,?_,h3⟩
  rw [hH]
  exact hp'.weaken hdom
 unfold Oper.wp
 rw [hv]
 rcases hres with ⟨rfl,hd⟩|⟨u,rfl,hu⟩
 ·rw [Oper.upon_skip]
  refine hfin _ (by simpa [hd,Act.put] using g1) (by rw [zo];exact g2) (fun i=>?_)
  simp only [hd,Act.put,Eff.t,Eff.wT,reduceCtorEq,if_false,Option.getD_none]
  exact (g4 i).mono (Still.le_refl F) hle
 ·rw [Oper.upon_value]
  cases ho:o.dst with
  | none =>
    rw [ho] at hfin
    refine hfin _ (by simpa [Act.put] using g1) (by rw [zo];exact g2) (fun i=>?_)
    simp only [Act.put,Eff.t,Eff.wT,reduceCtorEq,if_false,Option.getD_none]
    exact (g4 i).mono (Still.le_refl F) hle
  | some d =>
    rw [ho] at hfin
    refine hfin _ (by simpa [Act.put] using g1) (by rw [zo];exact g2) (fun i=>?_)
    rw [kg _ _ _ _ (Nat.lt_of_lt_of_le (hN d ho) (by omega))]
    unfold Eff.t Eff.wT
    by_cases hi:d = i
    ·subst hi;simpa using hu
    ·simpa [hi] using (g4 i).mono (Still.le_refl F) hle
theorem wj {P:Program} {N:Nat} {o:Oper} {t:Nat → AV} {h:Nat → HB} {x:AV} (rt rh:List Nat) (m:Nat) (ex:Bool) (k:Nat) (rows:List (List AV)) (ks:List Nat) (fr:List Nat)
  (hN : ∀ d,o.dst = some d → d < N) (hfr:fr = [m] ∨ fr = []) (hks:ks.length ≤ 1)
  (hrun : ∀ B A h' F ρ (a:Act) (w:World),Hp B A h' F ρ w → (∀ j,j ∈ rt → M F ρ (a.tmps.getD j undef) (t j)) → (∀ n,n ∈ rh → h' n = h n) → (∀ n,n ∈ fr → ρ n = none) →
   ∃ v w' pl tb,(execOp a.eval o).run P w = .ok v w' ∧ (v = .skip ∧ o.dst = none ∨ ∃ u,v = .value u ∧ M F (fun n=>if n = m then some pl else ρ n) u x) ∧
     (ρ m = none ∨ ρ m = some pl) ∧ B.kept w' ∧ (∀ b,tb = some b → ∃ n0 c,(n0 = m ∨ ks[0]? = some n0) ∧ (h' n0).isOwn = true ∧ ρ n0 = some (some (b,c))) ∧
     (∀ b,b < w.heap.size → tb ≠ some b → w'.heap[b]? = w.heap[b]?) ∧ (∀ b c,pl = some (b,c) → tb = some b ∨ w.heap.size ≤ b) ∧
     OwnAt F (fun n=>if n = m then some pl else ρ n) w' m (.own ex k rows) ∧ (fr = [] → ρ m ≠ none)) :
  ja P N o t h ⟨rt,rh,o.dst,x,(m,.own ex k rows) :: ks.map fun n=>(n,.dead),fr⟩:=wX rt rh m _ ks fr hN hfr hks hrun
end Go.Ab
set_option linter.unusedSimpArgs false
namespace Go.Ab
open Go.RowKit
def qW:List (Nat × TRec) → Nat → Option TRec
 | [],_=>none
 | (T,r) :: l,n=>if T = n then some r else qW l n
structure Cx where
 P:Program
 tab:List (Nat × TRec)
 ok : ∀ T r,qW tab T = some r → QQ P T = some r
 mixed:P.follows .mixedOrders = true
 nh:Nat:=0
 die:List PanicEntry → List (Nat × AV) → List (Nat × HB) → Prop:=fun _ _ _=>False
section
variable {F:Still} {ρ:Places} {v:Value}
theorem M.op_inv {n i j:Nat} (h:M F ρ v (.op n i j)) : ∃ b k cap,ρ n = some (some (b,k,cap)) ∧ v = .pointer (some ⟨b,i * k + j,none⟩):=by
 cases h with|op _ n b k cap i j hn=>exact ⟨b,k,cap,hn,rfl⟩
theorem M.os_inv {n off len:Nat} (h:M F ρ v (.os n off len)):(ρ n = some none ∧ off = 0 ∧ len = 0 ∧ ∃ a,v = .slice a 0 0) ∨
  ∃ b k cap a,ρ n = some (some (b,k,cap)) ∧ v = .slice (some a) len (cap - off) ∧ off + len ≤ cap ∧ (off < cap → a = ⟨b,off * k,none⟩):=by
 cases h with
 | os _ n b k cap off len a hn hl ha=>exact .inr ⟨b,k,cap,a,hn,rfl,hl,ha⟩
 | osn _ n a hn=>exact .inl ⟨hn,rfl,rfl,a,rfl⟩
theorem M.fp_inv {rows:List (List AV)} {i j:Nat} (h:M F ρ v (.fp rows i j)) : ∃ b off c e fr k,F b = some (.cells c e fr) ∧ i < rows.length ∧ off + rows.length * k ≤ c.size ∧ (∀ row,row ∈ rows → row.length = k) ∧
  (∀ (i j:Nat) row x v,rows[i]? = some row → row[j]? = some x → c[off + i * k + j]? = some v → M F noPlaces v x) ∧ v = .pointer (some ⟨b,off + i * k + j,none⟩):=by
 cases h with|fp _ b off c e fr k rows i j hb hi hs hk h=>exact ⟨b,off,c,e,fr,k,hb,hi,hs,hk,h,rfl⟩
theorem M.sl_inv {ex:Bool} {rows:List (List AV)} (h:M F ρ v (.sl ex rows)):(rows = [] ∧ ∃ a cap,v = .slice a 0 cap ∧ (ex = true → cap = 0) ∧ (a = none → cap = 0)) ∨
  ∃ b off cap c e fr k,F b = some (.cells c e fr) ∧ rows.length ≤ cap ∧ (ex = true → cap = rows.length) ∧ off + rows.length * k ≤ c.size ∧ (∀ row,row ∈ rows → row.length = k) ∧
  (∀ (i j:Nat) row x v,rows[i]? = some row → row[j]? = some x → c[off + i * k + j]? = some v → M F noPlaces v x) ∧ v = .slice (some ⟨b,off,none⟩) rows.length cap:=by
 cases h with
 | sl0 _ a cap ex he hn=>exact .inl ⟨rfl,a,cap,rfl,he,hn⟩
 | sl _ b off cap c e fr ex k rows hb hc he hs hk h=>exact .inr ⟨b,off,cap,c,e,fr,k,hb,hc,he,hs,hk,h,rfl⟩
theorem y8 {w:World} {n b k' cap' : Nat} {ex:Bool} {k:Nat} {rows:List (List AV)} (h:OwnAt F ρ w n (.own ex k rows)) (hn:ρ n = some (some (b,k',cap'))) :
  k' = k ∧ ∃ c e,w.heap[b]? = some (.cells c e (0,0)) ∧ c.size = cap' * k ∧ rows.length ≤ cap' ∧ (ex = true → cap' = rows.length) ∧ RowsAt F ρ c k rows:=by
 rcases h with ⟨h1,_⟩|⟨b',cap,c,e,h1,h2,h3,h4,h5,h6⟩
 ·rw [hn] at h1;cases h1
 ·rw [hn] at h1
  simp only [Option.some.injEq,Prod.mk.injEq] at h1
  obtain ⟨rfl,rfl,rfl⟩:=h1
  exact ⟨rfl,c,e,h2,h3,h4,h5,h6⟩
theorem kU {i k cap len:Nat} (hi:i < len) (hl:len ≤ cap):i * k + k ≤ cap * k:=by
 have:(i + 1) * k ≤ cap * k:=Nat.mul_le_mul_right k (by omega)
 rw [Nat.add_mul,Nat.one_mul] at this
 exact this
end
section ops
variable {C:Cx} {N d:Nat} {ty:TypeId} {pos:String} {af:Array Edge} {gd:Option (Nat × Bool)} {t:Nat → AV} {h:Nat → HB}
theorem kz (T:TypeId) (x:Operand) (n i j:Nat) (ex:Bool) (k:Nat) (rows:List (List AV)) (r:TRec) (row:List AV) (y:AV) (hx:evA t x = .op n i j) (hn:h n = .own ex k rows) (hT:qW C.tab T = some r)
  (hr:rows[i]? = some row) (hy:cut r row j = some y) (hN:d < N):ja C.P N ⟨some d,.load T x,ty,pos,af,gd⟩ t h ⟨yr x,[n],some d,y,[],[]⟩ :=
 jV _ _ rfl hN fun F ρ a w hag hs hh=>by
  have h1:=qE (x:=x) hs (fun j hj=>hj)
  rw [hx] at h1
  obtain ⟨b,k',cap,hρ,hv⟩:=h1.op_inv
  have h2:=hh n (by simp)
  rw [hn] at h2
  obtain ⟨rfl,c,e,hb,hsz,hle,_,hR⟩:=y8 h2 hρ
  have hi:i < rows.length:=(List.getElem?_eq_some_iff.1 hr).1
  have hk:row.length = k':=hR.1 row (List.mem_of_getElem? hr)
  obtain ⟨v,hrun,hm⟩:=YV (F:=F) (ρ:=ρ) hb (C.ok T r hT) (base:=i * k') (j:=j) (row:=row) (x:=y) (by rw [hk,hsz];exact kU hi hle) (fun j x v hj hc=>hR.2 i j row x v hr hj hc) hy
  refine ⟨v,?_,hm⟩
  simp only [execOp,hv,Instr.loadAt,Instr.sureAddr,Sem.run_bind,Sem.run_pure,Result.andThen_ok,hrun]
theorem wg (T:TypeId) (x:Operand) (rows:List (List AV)) (i j:Nat) (r:TRec) (row:List AV) (y:AV) (hx:evA t x = .fp rows i j) (hT:qW C.tab T = some r)
  (hr:rows[i]? = some row) (hy:cut r row j = some y) (hN:d < N):ja C.P N ⟨some d,.load T x,ty,pos,af,gd⟩ t h ⟨yr x,[],some d,y,[],[]⟩ :=
 jV _ _ rfl hN fun F ρ a w hag hs hh=>by
  have h1:=qE (x:=x) hs (fun j hj=>hj)
  rw [hx] at h1
  obtain ⟨b,off,c,e,fr,k,hb,hi,hsz,hk,hR,hv⟩:=h1.fp_inv
  have hkr:row.length = k:=hk row (List.mem_of_getElem? hr)
  obtain ⟨v,hrun,hm⟩:=YV (F:=F) (ρ:=ρ) (hag _ _ hb) (C.ok T r hT) (base:=off + i * k) (j:=j) (row:=row) (x:=y)
   (by rw [hkr];have:=kU (k:=k) hi (Nat.le_refl _);omega) (fun j x v hj hc=>(hR i j row x v hr hj hc).mono (Still.le_refl F) (wL ρ)) hy
  refine ⟨v,?_,hm⟩
  simp only [execOp,hv,Instr.loadAt,Instr.sureAddr,Sem.run_bind,Sem.run_pure,Result.andThen_ok,hrun]
theorem wi (T:TypeId) (x:Operand) (n i j:Nat) (rows:List (List AV)) (r:TRec) (row:List AV) (y:AV) (hx:evA t x = .op n i j) (hn:h n = .fz rows) (hT:qW C.tab T = some r)
  (hr:rows[i]? = some row) (hy:cut r row j = some y) (hN:d < N):ja C.P N ⟨some d,.load T x,ty,pos,af,gd⟩ t h ⟨yr x,[n],some d,y,[],[]⟩ :=
 jV _ _ rfl hN fun F ρ a w hag hs hh=>by
  have h1:=qE (x:=x) hs (fun j hj=>hj)
  rw [hx] at h1
  obtain ⟨b,k',cap,hρ,hv⟩:=h1.op_inv
  have h2:=hh n (by simp)
  rw [hn] at h2
  have hi:i < rows.length:=(List.getElem?_eq_some_iff.1 hr).1
  rcases h2 with ⟨_,h3⟩|⟨b',k,cap',c,e,fr,h3,hb,hsz,hle,hR⟩
  ·rw [h3] at hi;simp at hi
  ·rw [hρ] at h3
   simp only [Option.some.injEq,Prod.mk.injEq] at h3
   obtain ⟨rfl,rfl,rfl⟩:=h3
   have hk:row.length = k':=hR.1 row (List.mem_of_getElem? hr)
   obtain ⟨v,hrun,hm⟩:=YV (F:=F) (ρ:=ρ) (hag _ _ hb) (C.ok T r hT) (base:=i * k') (j:=j) (row:=row) (x:=y) (by rw [hk];exact Nat.le_trans (kU hi (Nat.le_refl _)) hsz)
    (fun j x v hj hc=>(hR.2 i j row x v hr hj hc).mono (Still.le_refl F) (fun n c h=>by cases h)) hy
   refine ⟨v,?_,hm⟩
   simp only [execOp,hv,Instr.loadAt,Instr.sureAddr,Sem.run_bind,Sem.run_pure,Result.andThen_ok,hrun]
def J7 (row:List AV) (j:Nat) (xs:List AV):List AV:=row.take j ++ xs ++ row.drop (j + xs.length)
theorem wQ {row xs:List AV} {j:Nat} (h:j + xs.length ≤ row.length):(J7 row j xs).length = row.length:=by
 simp [J7];omega
theorem Kg {r:TRec} {row:List AV} (ha:r.agg = true) (hl:row.length = r.size):cut r row 0 = some (.agg row):=by
 unfold cut
 rw [if_pos ha,if_pos (by omega),List.drop_zero, ← hl,List.take_length]
theorem zI (T:TypeId) (x:Operand) (n i:Nat) (ex:Bool) (k:Nat) (rows:List (List AV)) (r:TRec) (row:List AV) (hx:evA t x = .op n i 0) (hn:h n = .own ex k rows) (hT:qW C.tab T = some r)
  (hr:rows[i]? = some row) (ha:r.agg = true) (hl:row.length = r.size) (hN:d < N):ja C.P N ⟨some d,.load T x,ty,pos,af,gd⟩ t h ⟨yr x,[n],some d,.agg row,[],[]⟩:=kz T x n i 0 ex k rows r row _ hx hn hT hr (Kg ha hl) hN
theorem zY (T:TypeId) (x:Operand) (rows:List (List AV)) (i:Nat) (r:TRec) (row:List AV) (hx:evA t x = .fp rows i 0) (hT:qW C.tab T = some r)
  (hr:rows[i]? = some row) (ha:r.agg = true) (hl:row.length = r.size) (hN:d < N):ja C.P N ⟨some d,.load T x,ty,pos,af,gd⟩ t h ⟨yr x,[],some d,.agg row,[],[]⟩:=wg T x rows i 0 r row _ hx hT hr (Kg ha hl) hN
theorem zZ (T:TypeId) (x:Operand) (n i:Nat) (rows:List (List AV)) (r:TRec) (row:List AV) (hx:evA t x = .op n i 0) (hn:h n = .fz rows) (hT:qW C.tab T = some r)
  (hr:rows[i]? = some row) (ha:r.agg = true) (hl:row.length = r.size) (hN:d < N):ja C.P N ⟨some d,.load T x,ty,pos,af,gd⟩ t h ⟨yr x,[n],some d,.agg row,[],[]⟩:=wi T x n i 0 rows r row _ hx hn hT hr (Kg ha hl) hN
theorem Yx (T:TypeId) (p x:Operand) (n i j:Nat) (ex:Bool) (k:Nat) (rows:List (List AV)) (r:TRec) (row:List AV) (hp:evA t p = .op n i j) (hn:h n = .own ex k rows) (hT:qW C.tab T = some r)
  (hr:rows[i]? = some row) (hc:(cellsOf (evA t x)).all yo = true) (hs:(cellsOf (evA t x)).length = r.size) (hj:j + (cellsOf (evA t x)).length ≤ row.length) :
  ja C.P N ⟨none,.store T p x,ty,pos,af,gd⟩ t h ⟨yr p ++ yr x,[n],none,.junk,[(n,.own ex k (rows.set i (J7 row j (cellsOf (evA t x)))))],[]⟩ :=
 wj _ _ n ex k _ [] [] (fun d hd=>by cases hd) (.inr rfl) (by simp) fun B A h' F ρ a w hpp hm hh _=>by
  have h1:=qE (x:=p) hm (fun j hj=>List.mem_append_left _ hj)
  have h2:=qE (x:=x) hm (fun j hj=>List.mem_append_right _ hj)
  rw [hp] at h1
  obtain ⟨b,k',cap,hρ,hv⟩:=h1.op_inv
  have hn' : h' n = .own ex k rows:=(hh n (by simp)).trans hn
  have h3:=hpp.own n
  rw [hn'] at h3
  obtain ⟨rfl,c,e,hb,hsz,hle,hex,hR⟩:=y8 h3 hρ
  have hi:i < rows.length:=(List.getElem?_eq_some_iff.1 hr).1
  have hk:row.length = k':=hR.1 row (List.mem_of_getElem? hr)
  obtain ⟨c1,c2,c3⟩:=h2.cells hc
  have hrow:=kU (k:=k') hi hle
  obtain ⟨dd,inf,z,_,hinf,_,_,_,hsize,_⟩:=yG (C.ok T r hT)
  have hst:=run_storeCells_at C.P b (i * k' + j) e (a.eval x).cells.toList 0 c w hb (by rw [hsz,c1];omega) c2
  simp only [Nat.add_zero] at hst
  let c' : Array Value:=(c.toList.take (i * k' + j) ++ (a.eval x).cells.toList ++ c.toList.drop (i * k' + j + (a.eval x).cells.toList.length)).toArray
  have hc'size:c'.size = c.size:=by simp only [c',List.size_toArray,List.length_append,List.length_take,List.length_drop,Array.length_toList];simp only [Array.length_toList] at c1;omega
  have hpl:(fun m=>if m = n then some (some (b,k',cap)) else ρ m) = ρ:=by
   funext m;by_cases hmn:m = n
   ·subst hmn;simp [hρ]
   ·simp [hmn]
  refine ⟨.skip,w.setRow b c',some (b,k',cap),some b,?_,.inl ⟨rfl,rfl⟩,.inr hρ,?_,?_,?_,?_,?_,fun _=>by rw [hρ];simp⟩
  ·have hsv:(storeVar T ⟨b,i * k' + j,none⟩ (a.eval x)).run C.P w = .ok () (w.setRow b c'):=by
    unfold storeVar
    have hcs:(a.eval x).cells.size = r.size:=by rw [← Array.length_toList,c1,hs]
    simp only [Sem.run_bind,xE (C.ok T r hT),Result.andThen_ok,hcs,ne_eq,not_true_eq_false,if_false,Sem.run_pure]
    exact hst
   simp only [execOp,hv,Instr.storeAt,Instr.sureAddr,Sem.run_bind,Sem.run_pure,Result.andThen_ok,hsv]
  ·have hnew:=(hpp.new n b _ (by rw [hn'];rfl) hρ).2
   refine ⟨hpp.kept.os,hpp.kept.tape,hpp.kept.output,by simpa [World.setRow] using hpp.kept.size,fun b' hb' ho=>?_⟩
   rw [setRow_other _ _ _ _ (by rintro rfl;rcases hnew with hnew|hnew; · omega
                                ·exact ho hnew)]
   exact hpp.kept.block b' hb' ho
  ·intro b' hb'
   simp only [Option.some.injEq] at hb'
   subst hb'
   exact ⟨n,_,.inl rfl,by rw [hn'];rfl,hρ⟩
  ·intro b' _ hb'
   exact setRow_other _ _ _ _ (fun e=>hb' (by rw [e]))
  ·intro b' c'' he
   simp only [Option.some.injEq,Prod.mk.injEq] at he
   exact .inl (by rw [he.1])
  ·rw [hpl]
   refine .inr ⟨b,cap,c',e,hρ,setRow_heap _ _ _ _ _ _ hb,by rw [hc'size];exact hsz,by simpa using hle,by simpa using hex,?_,?_⟩
   ·intro row' hrow'
    rcases List.mem_or_eq_of_mem_set hrow' with h4|h4
    ·exact hR.1 row' h4
    ·rw [h4,wQ hj,hk]
   ·intro i' j' row' y v' hi' hj' hv'
    have hj'k:j' < k':=by
     have:=(List.getElem?_eq_some_iff.1 hj').1
     have hl:row'.length = k':=by
      rcases List.mem_or_eq_of_mem_set (List.mem_of_getElem? hi') with h4|h4
      ·exact hR.1 row' h4
      ·rw [h4,wQ hj,hk]
     omega
    have hget:c'[i' * k' + j']? = if i' * k' + j' < i * k' + j then c[i' * k' + j']? else if i' * k' + j' < i * k' + j + (cellsOf (evA t x)).length then (a.eval x).cells.toList[i' * k' + j' - (i * k' + j)]? else c[i' * k' + j']?:=by
     simp only [c',List.getElem?_toArray,List.getElem?_append,List.length_append,List.length_take,Array.length_toList]
     simp only [Array.length_toList] at c1
     rw [c1,Nat.min_eq_left (by omega)]
     by_cases h5:i' * k' + j' < i * k' + j
     ·rw [if_pos (by omega),if_pos h5,if_pos h5,List.getElem?_take,if_pos h5];simp
     ·by_cases h6:i' * k' + j' < i * k' + j + (cellsOf (evA t x)).length
      ·rw [if_pos h6,if_neg h5,if_neg h5,if_pos h6]
      ·rw [if_neg h6,if_neg h5,if_neg h6,List.getElem?_drop,show i * k' + j + (cellsOf (evA t x)).length + (i' * k' + j' - (i * k' + j + (cellsOf (evA t x)).length)) = i' * k' + j' from by omega]
       simp
    rw [hget] at hv'
    by_cases hii:i' = i
    ·subst hii
     rw [List.getElem?_set_self hi] at hi'
     simp only [Option.some.injEq] at hi'
     subst hi'
     unfold J7 at hj'
     rw [List.getElem?_append,List.getElem?_append] at hj'
     simp only [List.length_append,List.length_take] at hj'
     rw [Nat.min_eq_left (by omega)] at hj'
     by_cases h5:j' < j
     ·rw [if_pos (by omega)] at hv'
      rw [if_pos (by omega),if_pos h5,List.getElem?_take,if_pos h5] at hj'
      exact hR.2 i' j' row y v' hr hj' hv'
     ·rw [if_neg (by omega)] at hv'
      by_cases h6:j' < j + (cellsOf (evA t x)).length
      ·rw [if_pos (by omega),show i' * k' + j' - (i' * k' + j) = j' - j from by omega] at hv'
       rw [if_pos h6,if_neg h5] at hj'
       exact c3 _ _ _ hv' hj'
      ·rw [if_neg (by omega)] at hv'
       rw [if_neg h6,List.getElem?_drop,show j + (cellsOf (evA t x)).length + (j' - (j + (cellsOf (evA t x)).length)) = j' from by omega] at hj'
       exact hR.2 i' j' row y v' hr hj' hv'
    ·rw [List.getElem?_set_ne (Ne.symm hii)] at hi'
     have hlt:i' * k' + j' < i * k' + j ∨ i * k' + j + (cellsOf (evA t x)).length ≤ i' * k' + j':=by
      rcases Nat.lt_or_ge i' i with h5|h5
      ·left;have:=kU (k:=k') h5 (Nat.le_refl _);omega
      ·right;have:=kU (k:=k') (show i < i' by omega) (Nat.le_refl _);omega
     have hv'' : c[i' * k' + j']? = some v':=by
      rcases hlt with h5|h5
      ·rw [if_pos h5] at hv';exact hv'
      ·rw [if_neg (by omega),if_neg (by omega)] at hv';exact hv'
     exact hR.2 i' j' row' y v' hi' hj' hv''
end ops
end Go.Ab
set_option linter.unusedSimpArgs false
set_option linter.unusedVariables false
namespace Go.Ab
open Go.RowKit
section ops
variable {C:Cx} {N d:Nat} {ty:TypeId} {pos:String} {af:Array Edge} {gd:Option (Nat × Bool)} {t:Nat → AV} {h:Nat → HB}
theorem qaK {P:Program} {o:Oper} {x:AV} (rt rh:List Nat) (m:Nat) (ex:Bool) (k cap:Nat) (rows:List (List AV)) (hd:o.dst = some d) (hN:d < N) (hcap:rows.length ≤ cap) (hex:ex = true → cap = rows.length)
  (hrun : ∀ F ρ (a:Act) (w:World),(∀ j,j ∈ rt → M F ρ (a.tmps.getD j undef) (t j)) → ∃ u c e,(execOp a.eval o).run P w = .ok (.value u) (w.alloc (.cells c e)) ∧ c.size = cap * k ∧ RowsAt F ρ c k rows ∧
   (∀ ρ' : Places,ρ' m = some (some (w.heap.size,k,cap)) → ρ.le ρ' → M F ρ' u x)) :
  ja P N o t h ⟨rt,rh,some d,x,[(m,.own ex k rows)],[m]⟩:=by
 have:=wj (P:=P) (N:=N) (o:=o) (t:=t) (h:=h) (x:=x) rt rh m ex k rows [] [m] (fun d' hd'=>by rw [hd] at hd';injection hd' with e;exact e ▸ hN) (.inl rfl) (by simp) ?_
 ·rw [hd] at this;exact this
 ·intro B A h' F ρ a w hp hm _ hfr
  obtain ⟨u,c,e,hr,hs,hR,hM⟩:=hrun F ρ a w hm
  have hρ:ρ m = none:=hfr m (by simp)
  have hle:ρ.le (fun n=>if n = m then some (some (w.heap.size,k,cap)) else ρ n):=by
   intro n c hn
   by_cases hnm:n = m
   ·subst hnm;rw [hρ] at hn;cases hn
   ·simpa [hnm] using hn
  refine ⟨.value u,_,some (w.heap.size,k,cap),none,hr,.inr ⟨u,rfl,hM _ (by simp) hle⟩,.inl hρ,hp.kept.alloc _,(fun b hb=>by cases hb),fun b hb _=>Below.heap_alloc _ _ _ hb,?_,?_,(fun h=>by cases h)⟩
  ·intro b c' he
   simp only [Option.some.injEq,Prod.mk.injEq] at he
   exact .inr (by omega)
  ·exact .inr ⟨w.heap.size,cap,c,e,by simp,heap_alloc_new w _,hs,hcap,hex,hR.mono (Still.le_refl F) hle⟩
theorem RowsAt.one {F:Still} {ρ:Places} {c:Array Value} {row:List AV} (hs:c.size = row.length) (hR : ∀ (j:Nat) x v,row[j]? = some x → c[j]? = some v → M F ρ v x):RowsAt F ρ c row.length [row]:=by
 refine ⟨fun r hr=>by simp at hr;rw [hr],fun i j r x v hi hj hv=>?_⟩
 cases i with
 | zero=>simp at hi;subst hi;exact hR j x v hj (by simpa using hv)
 | succ i=>simp at hi
theorem Kh (T:TypeId) (x:Operand) (m:Nat) (hc:(cellsOf (evA t x)).all yo = true) (hN:d < N) :
  ja C.P N ⟨some d,.box T x,ty,pos,af,gd⟩ t h ⟨yr x,[],some d,.op m 0 0,[(m,.own true (cellsOf (evA t x)).length [cellsOf (evA t x)])],[m]⟩ :=
 qaK _ _ m true _ 1 _ rfl hN (by simp) (by simp) fun F ρ a w hm=>by
  have h1:=qE (x:=x) hm (fun j hj=>hj)
  obtain ⟨c1,_,c3⟩:=h1.cells hc
  refine ⟨.pointer (some ⟨w.heap.size,0,none⟩),(a.eval x).cells,T,?_,?_,RowsAt.one (by simpa using c1) (fun j y v hj hv=>c3 j v y (by simpa using hv) hj),fun ρ' hρ' _=>?_⟩
  ·simp [execOp,Instr.box,newVar,newRow,newObj,Sem.run,Result.andThen]
  ·simpa using c1
  ·exact (by simpa using M.op (F:=F) _ m _ _ _ 0 0 hρ')
theorem Yq (T:TypeId) (m:Nat) (r:TRec) (hT:qW C.tab T = some r) (hN:d < N) :
  ja C.P N ⟨some d,.alloc T,ty,pos,af,gd⟩ t h ⟨[],[],some d,.op m 0 0,[(m,.own true (r.zero.map ofV).length [r.zero.map ofV])],[m]⟩ :=
 qaK _ _ m true _ 1 _ rfl hN (by simp) (by simp) fun F ρ a w hm=>by
  obtain ⟨z,hz,hzc⟩:=QM (C.ok T r hT) w
  refine ⟨.pointer (some ⟨w.heap.size,0,none⟩),z.cells,T,?_,by rw [hzc];simp,RowsAt.one (by rw [hzc];simp) (fun j y v hj hv=>?_),fun ρ' hρ' _=>?_⟩
  ·simp [execOp,Instr.alloc,hz,newVar,newRow,newObj,Sem.run,Result.andThen]
  ·rw [hzc] at hv
   rw [List.getElem?_map] at hj
   simp only [List.getElem?_toArray] at hv
   rw [hv] at hj
   simp only [Option.map_some,Option.some.injEq] at hj
   exact hj ▸ JC F ρ v
  ·exact (by simpa using M.op (F:=F) _ m _ _ _ 0 0 hρ')
def Yy (r:TRec) (f:Nat):Option (Nat × Nat) :=
 match r.kind with
 | .struct fs=>fs[f]?
 | _=>none
theorem Qo {P:Program} {T:Nat} {r:TRec} (hT:QQ P T = some r) {f off ty:Nat} (hf:Yy r f = some (off,ty)) : ∃ (fs:Array Field) (fd:Field),P.underlying T = some (.struct fs) ∧ fs[f]? = some fd ∧ fd.offset = off ∧ fd.type = ty:=by
 obtain ⟨dd,i,z,hd,_,_,hk,_⟩:=yG hT
 unfold Yy at hf
 rw [hk] at hf
 cases dd with
 | struct fs =>
   simp only [vE,List.getElem?_map,Option.map_eq_some_iff,Prod.mk.injEq] at hf
   obtain ⟨fd,h1,h2,h3⟩:=hf
   exact ⟨fs,fd,hd,by simpa using h1,h2,h3⟩
 | _=>simp [vE] at hf
theorem zu (T:TypeId) (x:Operand) (f n i j off fty:Nat) (r rf:TRec) (hx:evA t x = .op n i j) (hT:qW C.tab T = some r) (hf:Yy r f = some (off,fty)) (hF:qW C.tab fty = some rf) (h0:rf.size ≠ 0) (hN:d < N) :
  ja C.P N ⟨some d,.fieldAddr T x f,ty,pos,af,gd⟩ t h ⟨yr x,[],some d,.op n i (j + off),[],[]⟩ :=
 jV _ _ rfl hN fun F ρ a w _ hs _=>by
  have h1:=qE (x:=x) hs (fun j hj=>hj)
  rw [hx] at h1
  obtain ⟨b,k,cap,hρ,hv⟩:=h1.op_inv
  obtain ⟨fs,fd,hu,hfd,rfl,rfl⟩:=Qo (C.ok T r hT) hf
  have hadd:(⟨b,i * k + j,none⟩ : Addr).add fd.offset = ⟨b,i * k + (j + fd.offset),none⟩:=by unfold Addr.add;split<;>simp_all;omega
  refine ⟨.pointer (some ⟨b,i * k + (j + fd.offset),none⟩),?_,.op _ n b k cap i _ hρ⟩
  simp only [execOp,hv,Instr.fieldAt,Sem.run_bind,run_underlying hu,Result.andThen_ok,hfd,Instr.sureAddr,Sem.run_pure,fieldPlace,xE (C.ok _ rf hF),h0,if_false,hadd,Sem.run_ite]
theorem zH (T:TypeId) (x:Operand) (f:Nat) (rows:List (List AV)) (i j off fty:Nat) (r rf:TRec) (hx:evA t x = .fp rows i j) (hT:qW C.tab T = some r) (hf:Yy r f = some (off,fty)) (hF:qW C.tab fty = some rf) (h0:rf.size ≠ 0) (hN:d < N) :
  ja C.P N ⟨some d,.fieldAddr T x f,ty,pos,af,gd⟩ t h ⟨yr x,[],some d,.fp rows i (j + off),[],[]⟩ :=
 jV _ _ rfl hN fun F ρ a w _ hs _=>by
  have h1:=qE (x:=x) hs (fun j hj=>hj)
  rw [hx] at h1
  obtain ⟨b,o,c,e,fr,k,hb,hi,hsz,hk,hR,hv⟩:=h1.fp_inv
  obtain ⟨fs,fd,hu,hfd,rfl,rfl⟩:=Qo (C.ok T r hT) hf
  have hadd:(⟨b,o + i * k + j,none⟩ : Addr).add fd.offset = ⟨b,o + i * k + (j + fd.offset),none⟩:=by unfold Addr.add;split<;>simp_all;omega
  refine ⟨.pointer (some ⟨b,o + i * k + (j + fd.offset),none⟩),?_,.fp _ b o c e fr k rows i _ hb hi hsz hk hR⟩
  simp only [execOp,hv,Instr.fieldAt,Sem.run_bind,run_underlying hu,Result.andThen_ok,hfd,Instr.sureAddr,Sem.run_pure,fieldPlace,xE (C.ok _ rf hF),h0,if_false,hadd,Sem.run_ite]
theorem Yu (T:TypeId) (x:Operand) (f off fty:Nat) (cs:List AV) (r rf:TRec) (y:AV) (hx:evA t x = .agg cs) (hT:qW C.tab T = some r) (hf:Yy r f = some (off,fty)) (hF:qW C.tab fty = some rf) (hy:cut rf cs off = some y) (hN:d < N) :
  ja C.P N ⟨some d,.field T x f,ty,pos,af,gd⟩ t h ⟨yr x,[],some d,y,[],[]⟩ :=
 jV _ _ rfl hN fun F ρ a w _ hs _=>by
  have h1:=qE (x:=x) hs (fun j hj=>hj)
  rw [hx] at h1
  obtain ⟨vs,hv,hl,hm⟩:=h1.agg_inv
  obtain ⟨fs,fd,hu,hfd,rfl,rfl⟩:=Qo (C.ok T r hT) hf
  unfold cut at hy
  cases hagg:rf.agg with
  | false =>
    simp only [hagg,Bool.false_eq_true,if_false] at hy
    have hi:fd.offset < vs.length:=by have:=(List.getElem?_eq_some_iff.1 hy).1;omega
    have hvi:vs[fd.offset]? = some vs[fd.offset]:=List.getElem?_eq_getElem hi
    refine ⟨vs[fd.offset],?_,hm _ _ _ hvi hy⟩
    simp only [execOp,hv,Instr.field,Sem.run_bind,run_underlying hu,Result.andThen_ok,hfd,asAgg,Sem.run_pure,part,JJ (C.ok _ rf hF),hagg,Bool.false_eq_true,if_false,List.getElem?_toArray,hvi,Sem.run_ite]
  | true =>
    simp only [hagg,if_true] at hy
    split at hy
    ·rename_i hle
     simp only [Option.some.injEq] at hy
     subst hy
     refine ⟨.agg ((vs.drop fd.offset).take rf.size).toArray,?_,.agg _ _ _ (by simp;omega) ?_⟩
     ·simp only [execOp,hv,Instr.field,Sem.run_bind,run_underlying hu,Result.andThen_ok,hfd,asAgg,Sem.run_pure,part,JJ (C.ok _ rf hF),hagg,if_true,xE (C.ok _ rf hF),Sem.run_ite]
      have:vs.toArray.extract fd.offset (fd.offset + rf.size) = ((vs.drop fd.offset).take rf.size).toArray:=by
       rw [List.extract_toArray,List.extract_eq_take_drop,show fd.offset + rf.size - fd.offset = rf.size from by omega]
      rw [this]
     ·intro i v y hv' hy'
      have hil:i < rf.size:=by have:=(List.getElem?_eq_some_iff.1 hv').1;simp at this;omega
      rw [getElem?_drop_take _ _ _ _ hil] at hv' hy'
      exact hm _ _ _ hv' hy'
    ·cases hy
theorem z2 (x:Operand) (n i j:Nat) (hx:evA t x = .op n i j) (hN:d < N):ja C.P N ⟨some d,.nilCheck x,ty,pos,af,gd⟩ t h ⟨yr x,[],some d,.op n i j,[],[]⟩ :=
 jV _ _ rfl hN fun F ρ a w _ hs _=>by
  have h1:=qE (x:=x) hs (fun j hj=>hj)
  rw [hx] at h1
  have h2:=h1
  obtain ⟨b,k,cap,hρ,hv⟩:=h1.op_inv
  exact ⟨a.eval x,by simp only [execOp,hv,Sem.run_pure],h2⟩
theorem z1 (x:Operand) (rows:List (List AV)) (i j:Nat) (hx:evA t x = .fp rows i j) (hN:d < N):ja C.P N ⟨some d,.nilCheck x,ty,pos,af,gd⟩ t h ⟨yr x,[],some d,.fp rows i j,[],[]⟩ :=
 jV _ _ rfl hN fun F ρ a w _ hs _=>by
  have h1:=qE (x:=x) hs (fun j hj=>hj)
  rw [hx] at h1
  have h2:=h1
  obtain ⟨b,o,c,e,fr,k,hb,hi,hsz,hk,hR,hv⟩:=h1.fp_inv
  exact ⟨a.eval x,by simp only [execOp,hv,Sem.run_pure],h2⟩
theorem yj {P:Program} {T:Nat} {r:TRec} (hT:QQ P T = some r) {e:Nat} (he:r.kind = .slice e):P.underlying T = some (.slice e):=by
 obtain ⟨dd,i,z,hd,_,_,hk,_⟩:=yG hT
 rw [he] at hk
 cases dd<;>first|(simp only [vE,TK.slice.injEq] at hk;subst hk;exact hd)|exact hd|(simp [vE] at hk)
theorem v7 (T:TypeId) (x y:Operand) (k:IntKind) (i:Nat) (ex:Bool) (rows:List (List AV)) (e:Nat) (r re:TRec) (row:List AV) (hx:evA t x = .sl ex rows) (hy:evA t y = .v (.int k (i:Int))) (hT:qW C.tab T = some r) (he:r.kind = .slice e)
  (hE:qW C.tab e = some re) (hr:rows[i]? = some row) (hk:row.length = re.size) (hN:d < N) :
  ja C.P N ⟨some d,.indexAddr T x y,ty,pos,af,gd⟩ t h ⟨yr x ++ yr y,[],some d,.fp rows i 0,[],[]⟩ :=
 jV _ _ rfl hN fun F ρ a w _ hs _=>by
  have h1:=qE (x:=x) hs (fun j hj=>List.mem_append_left _ hj)
  have h2:=qE (x:=y) hs (fun j hj=>List.mem_append_right _ hj)
  rw [hx] at h1;rw [hy] at h2
  obtain ⟨h2,_⟩:=h2.v_inv
  have hi:i < rows.length:=(List.getElem?_eq_some_iff.1 hr).1
  rcases h1.sl_inv with ⟨h3,_⟩|⟨b,o,cap,c,e',fr,kk,hb,_,_,hsz,hkk,hR,hv⟩
  ·rw [h3] at hi;simp at hi
  ·have hk' : re.size = kk:=by rw [← hk];exact hkk row (List.mem_of_getElem? hr)
   have hadd:(⟨b,o,none⟩ : Addr).add (i * kk) = ⟨b,o + i * kk + 0,none⟩:=by unfold Addr.add;split<;>simp_all
   refine ⟨.pointer (some ⟨b,o + i * kk + 0,none⟩),?_,.fp _ b o c e' fr kk rows i 0 hb hi hsz hkk hR⟩
   simp only [execOp,hv,h2,Instr.indexAt,asIntOf,Sem.run_bind,Sem.run_pure,Result.andThen_ok,run_underlying (yj (C.ok T r hT) he)]
   have hlt:(0 ≤ (i:Int) ∧ (i:Int) < (rows.length:Int)) = True:=by simp;omega
   simp only [Sem.run_ite,Sem.run_bind,Sem.run_pure,Result.andThen_ok,hlt,if_true,xE (C.ok e re hE),hk',Int.toNat_natCast,hadd]
theorem Y9 (T:TypeId) (x y:Operand) (kd:IntKind) (i n off len:Nat) (ex:Bool) (rows:List (List AV)) (e:Nat) (r re:TRec) (hx:evA t x = .os n off len) (hy:evA t y = .v (.int kd (i:Int))) (hT:qW C.tab T = some r) (he:r.kind = .slice e)
  (hE:qW C.tab e = some re) (hn:h n = .own ex re.size rows) (hi:i < len) (hN:d < N) :
  ja C.P N ⟨some d,.indexAddr T x y,ty,pos,af,gd⟩ t h ⟨yr x ++ yr y,[n],some d,.op n (off + i) 0,[],[]⟩ :=
 jV _ _ rfl hN fun F ρ a w _ hs hh=>by
  have h1:=qE (x:=x) hs (fun j hj=>List.mem_append_left _ hj)
  have h2:=qE (x:=y) hs (fun j hj=>List.mem_append_right _ hj)
  rw [hx] at h1;rw [hy] at h2
  obtain ⟨h2,_⟩:=h2.v_inv
  have h3:=hh n (by simp)
  rw [hn] at h3
  rcases h1.os_inv with ⟨_,_,h4,_⟩|⟨b,k,cap,ad,hρ,hv,hl,ha⟩
  ·omega
  ·obtain ⟨rfl,c,e',hb,hsz,hle,hex,hR⟩:=y8 h3 hρ
   have ha':=ha (by omega)
   subst ha'
   have hadd:(⟨b,off * re.size,none⟩ : Addr).add (i * re.size) = ⟨b,(off + i) * re.size + 0,none⟩:=by unfold Addr.add;rw [Nat.add_mul];split<;>simp_all
   refine ⟨.pointer (some ⟨b,(off + i) * re.size + 0,none⟩),?_,.op _ n b re.size cap _ 0 hρ⟩
   simp only [execOp,hv,h2,Instr.indexAt,asIntOf,Sem.run_bind,Sem.run_pure,Result.andThen_ok,run_underlying (yj (C.ok T r hT) he)]
   have hlt:(0 ≤ (i:Int) ∧ (i:Int) < (len:Int)) = True:=by simp;omega
   simp only [Sem.run_ite,Sem.run_bind,Sem.run_pure,Result.andThen_ok,hlt,if_true,xE (C.ok e re hE),Int.toNat_natCast,hadd]
def str (l:List UInt8):Value := .string ⟨l.toArray⟩
theorem Y0 (l:List UInt8):(ByteArray.mk l.toArray).size = l.length:=by
 show l.toArray.size = _
 simp
theorem vS {P:Program} {T:Nat} {r:TRec} (hT:QQ P T = some r) (he:r.kind = .string):P.underlying T = some .string:=by
 obtain ⟨dd,i,z,hd,_,_,hk,_⟩:=yG hT
 rw [he] at hk
 cases dd<;>first|(simp only [vE,TK.slice.injEq] at hk;subst hk;exact hd)|exact hd|(simp [vE] at hk)
theorem x9 (T:TypeId) (x y:Operand) (kd:IntKind) (i:Nat) (l:List UInt8) (c:UInt8) (r:TRec) (hx:evA t x = .v (str l)) (hy:evA t y = .v (.int kd (i:Int))) (hT:qW C.tab T = some r) (he:r.kind = .string)
  (hc:l[i]? = some c) (hN:d < N):ja C.P N ⟨some d,.index T x y,ty,pos,af,gd⟩ t h ⟨yr x ++ yr y,[],some d,.v (.int .u8 (c.toNat:Int)),[],[]⟩ :=
 jV _ _ rfl hN fun F ρ a w _ hs _=>by
  have h1:=qE (x:=x) hs (fun j hj=>List.mem_append_left _ hj)
  have h2:=qE (x:=y) hs (fun j hj=>List.mem_append_right _ hj)
  rw [hx] at h1;rw [hy] at h2
  obtain ⟨h1,_⟩:=h1.v_inv
  obtain ⟨h2,_⟩:=h2.v_inv
  have hi:i < l.length:=(List.getElem?_eq_some_iff.1 hc).1
  have hget : ∀ (hsz:i < (ByteArray.mk l.toArray).size),(ByteArray.mk l.toArray)[i]'hsz = c:=fun hsz=>by
   have h3:=(List.getElem?_eq_some_iff.1 hc).2
   show l.toArray[i]'_ = c
   simpa using h3
  have hsz:i < (ByteArray.mk l.toArray).size:=by show i < l.toArray.size;simpa using hi
  refine ⟨.int .u8 (c.toNat:Int),?_,.v _ _ rfl⟩
  simp only [execOp,h1,h2,str,Instr.index,asIntOf,Sem.run_bind,Sem.run_pure,Result.andThen_ok,run_underlying (vS (C.ok T r hT) he)]
  have hnn:(0 ≤ (i:Int)) = True:=by simp
  simp only [hnn,if_true,Int.toNat_natCast,getElem?_pos (ByteArray.mk l.toArray) i hsz,hget hsz,Sem.run_pure,Result.andThen_ok]
theorem Qn (argT ty' : Nat) (x:Operand) (l:List UInt8) (r:TRec) (hx:evA t x = .v (str l)) (hT:qW C.tab argT = some r) (he:r.kind = .string) (hN:d < N) :
  ja C.P N ⟨some d,.call ⟨.builtin .len, #[x], #[argT]⟩,ty',pos,af,gd⟩ t h ⟨yr x,[],some d,.v (.int .i64 (l.length:Int)),[],[]⟩ :=
 jV _ _ rfl hN fun F ρ a w _ hs _=>by
  have h1:=qE (x:=x) hs (fun j hj=>hj)
  rw [hx] at h1
  obtain ⟨h1,_⟩:=h1.v_inv
  refine ⟨.int .i64 (l.length:Int),?_,.v _ _ rfl⟩
  simp [execOp,resolve,invoke,builtin,Builtin.len_,h1,str,run_underlying (vS (C.ok _ r hT) he),goInt,Y0]
theorem Jw (argT ty' : Nat) (x:Operand) (ex:Bool) (rows:List (List AV)) (r:TRec) (e:Nat) (hx:evA t x = .sl ex rows) (hT:qW C.tab argT = some r) (he:r.kind = .slice e) (hN:d < N) :
  ja C.P N ⟨some d,.call ⟨.builtin .len, #[x], #[argT]⟩,ty',pos,af,gd⟩ t h ⟨yr x,[],some d,.v (.int .i64 (rows.length:Int)),[],[]⟩ :=
 jV _ _ rfl hN fun F ρ a w _ hs _=>by
  have h1:=qE (x:=x) hs (fun j hj=>hj)
  rw [hx] at h1
  have hu:=yj (C.ok _ r hT) he
  refine ⟨.int .i64 (rows.length:Int),?_,.v _ _ rfl⟩
  rcases h1.sl_inv with ⟨h3,ad,cap,hv,_⟩|⟨b,o,cap,c,e',fr,kk,hb,_,_,hsz,hkk,hR,hv⟩
  ·subst h3
   simp [execOp,resolve,invoke,builtin,Builtin.len_,hv,run_underlying hu,goInt]
  ·simp [execOp,resolve,invoke,builtin,Builtin.len_,hv,run_underlying hu,goInt]
theorem Qm (argT ty' : Nat) (x:Operand) (n off len:Nat) (r:TRec) (e:Nat) (hx:evA t x = .os n off len) (hT:qW C.tab argT = some r) (he:r.kind = .slice e) (hN:d < N) :
  ja C.P N ⟨some d,.call ⟨.builtin .len, #[x], #[argT]⟩,ty',pos,af,gd⟩ t h ⟨yr x,[],some d,.v (.int .i64 (len:Int)),[],[]⟩ :=
 jV _ _ rfl hN fun F ρ a w _ hs _=>by
  have h1:=qE (x:=x) hs (fun j hj=>hj)
  rw [hx] at h1
  have hu:=yj (C.ok _ r hT) he
  refine ⟨.int .i64 (len:Int),?_,.v _ _ rfl⟩
  rcases h1.os_inv with ⟨_,_,rfl,ad0,hv⟩|⟨b,k,cap,ad,hρ,hv,hl,ha⟩
  ·simp [execOp,resolve,invoke,builtin,Builtin.len_,hv,run_underlying hu,goInt]
  ·simp [execOp,resolve,invoke,builtin,Builtin.len_,hv,run_underlying hu,goInt]
end ops
end Go.Ab
