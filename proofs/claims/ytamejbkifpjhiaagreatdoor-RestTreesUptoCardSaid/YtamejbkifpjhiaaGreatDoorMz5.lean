import Derived.Test.YtamejbkifpjhiaaGreatDoorMz2
import Derived.RangeFuncNested
set_option linter.unusedSimpArgs false
set_option linter.unnecessarySimpa false
set_option linter.unusedVariables false
namespace Go.Ab
open Go.RowKit
theorem Wd {P:Program} {f:FuncId} {args:List AV} {r:Value} (hr:QO r = true)
  (h : ∀ (F:Still) (ρ:Places) (vs:List Value) (w:World),(∀ b o,F b = some o → w.heap[b]? = some o) → vs.length = args.length → (∀ (i:Nat) v x,vs[i]? = some v → args[i]? = some x → M F ρ v x) → Calls P f vs.toArray w fun e w'=>e = .returned r ∧ w.grownBy w' none):xH P f args (.v r):=by
 intro B vs w hl hN ⟨g1,g2,F,ρ,hp,g4⟩
 refine (h F ρ vs w hp.agree hl (fun i v x hv hx=>?_)).mono fun e w' ⟨he,hg⟩=>⟨r,he,g1,rfl,F,ρ,?_,fun i=>?_⟩
 ·have:=g4 i
  simp only [Array.getD_eq_getD_getElem?,List.getElem?_toArray,hv,Option.getD_some,List.getD_eq_getElem?_getD,hx] at this
  exact this
 ·refine { kept:=⟨hg.os.trans hp.kept.os,hg.tape.trans hp.kept.tape,hg.output.trans hp.kept.output,Nat.le_trans hp.kept.size hg.size,fun b hb ho=>?_⟩,agree:=fun b o hb=>?_,grow:=hp.grow,fresh:=hp.fresh,names:=hp.names,dom:=fun _ _=>trivial,own:=fun n=>?_,new:=fun n b c ho=>?_,sep:=fun n m b c c' _ ho=>?_ }
  ·rw [hg.block b (Nat.lt_of_lt_of_le hb hp.kept.size) (by simp)];exact hp.kept.block b hb ho
  ·have h1:=hp.agree b o hb
   rw [hg.block b (Array.getElem?_eq_some_iff.1 h1).1 (by simp)];exact h1
  ·rw [show (([]:List HB).getD n .dead) = .dead from by simp];trivial
  ·rw [show (([]:List HB).getD n .dead) = .dead from by simp] at ho;cases ho
  ·rw [show (([]:List HB).getD n .dead) = .dead from by simp] at ho;cases ho
 ·by_cases hi:i = 0
  ·subst hi;exact .v _ r hr
  ·unfold one;rw [if_neg hi];exact .junk _ _
def KX (F:Fence) (n:Nat) (P:Program) (gf:Nat) (lb:Array Value) (S:Nat) (names:List (List UInt8)) (w0:World):Prop :=
 ∀ (l:Nat) (J Jx:List (List UInt8) → World → Prop) (W:World),(∀ k,S ≤ k → k < S + 3 → W.heap[k]? = w0.heap[k]?) → (∀ pre A B,J pre A → A.grownBy B (some S) → J pre B) → (∀ pre A B,Jx pre A → A.grownBy B (some S) → Jx pre B) →
   (∀ pre x W1,J pre W1 → pre ++ [x] <+: names → YieldAt F (n - 1) P l #[.string ⟨x.toArray⟩] W1 fun e W' =>
    (e = .returned (.bool true) ∧ J (pre ++ [x]) W' ∧ ∀ k,S ≤ k → k < S + 3 → W'.heap[k]? = W1.heap[k]?) ∨ (e = .returned (.bool false) ∧ Jx (pre ++ [x]) W')) →
   J [] W →
   CallsIn F n P gf (#[.func (.yield l) #[] #[]] ++ lb) W fun e W'=>(∃ v,e = .returned v) ∧ (J names W' ∨ ∃ pre,pre <+: names ∧ Jx pre W')
structure RoundKeeps (S:Nat) (W W' : World):Prop where
 size:W.heap.size ≤ W'.heap.size
 same : ∀ k,k < W.heap.size → S ≤ k → W'.heap[k]? = W.heap[k]?
def qdC (S:Nat) (I Ix:List (List UInt8) → World → Prop) (xs:List (List UInt8)) (W:World):Exit → Act → World → Prop
 | .normal,_,W'=>RoundKeeps S W W' ∧ I xs W'
 | .ret,_,W'=>RoundKeeps S W W' ∧ Ix xs W'
 | _,_,_=>False
theorem JN {F:Fence} {n:Nat} {P:Program} {g:Operand} {ps:Array Tmp} {assign body:Code} {Q:Exit → Act → World → Prop} {a:Act} {w:World}
  (hro:F.round = none) (h1:1 ≤ n) {gf:Nat} {lb:Array Value} (hg:a.eval g = .func (.func gf) #[] lb) (hFg:F.fn gf) (eg : ∀ args w,(callFunc gf args).run P w = .ok (.enter gf args) w)
  {S:Nat} {names:List (List UInt8)} (hS:w.heap.size = S + 3) (hseq:KX F (n - 1) P gf lb S names w) (hps:ps.size = 1)
  (I Ix:List (List UInt8) → World → Prop)
  (hI : ∀ s A B row,I s A → A.grownBy B row → (∀ r,row = some r → S ≤ r) → I s B) (hIx : ∀ s A B row,Ix s A → A.grownBy B row → (∀ r,row = some r → S ≤ r) → Ix s B)
  (h0:I [] w) (a₁:List UInt8 → Act)
  (hassign : ∀ (l:Nat) (x:List UInt8) (W:World) (K:Act → World → Prop),K (a₁ x) W →
   assign.wpIn (F.inRound l) (n - 1 - 1) P (Exit.then K (fun _ _ _=>False)) { tmps:=(ps.zip #[.string ⟨x.toArray⟩]).foldl (fun t (p,v)=>t.setIfInBounds p v) a.tmps,defers:=[] } W)
  (hbody : ∀ (l:Nat) (pre:List (List UInt8)) (x:List UInt8) (W:World),I pre W → pre ++ [x] <+: names → w.heap.size ≤ W.heap.size → body.wpIn (F.inRound l) (n - 1 - 1) P (qdC S I Ix (pre ++ [x]) W) (a₁ x) W)
  (hdone : ∀ (W:World),I names W → W.heap[w.heap.size]? = some (.deferred (some [])) → Q .normal { a with defers := { target := .collected w.heap.size,args := #[] } :: a.defers } W)
  (hstop : ∀ (pre:List (List UInt8)) (W:World),pre <+: names → Ix pre W → W.heap[w.heap.size]? = some (.deferred (some [])) → Code.ret.wpIn F n P Q { a with defers := { target := .collected w.heap.size,args := #[] } :: a.defers } W) :
  (Code.rangeFunc g ps assign body).wpIn F n P Q a w:=by
 refine wpIn_rangeFunc ?_
 intro fn hfn
 rw [hro]
 obtain ⟨rec,hrec⟩ : ∃ rec:LoopState → Option Code → Loop,rec = fun st pe => { state:=st,pending:=pe,fn,tmps:=a.tmps,params:=ps,assign,body,defers:=w.heap.size }:=⟨_,rfl⟩
 obtain ⟨W1,hW1⟩ : ∃ W1,(w.alloc (.deferred (some []))).alloc (.loop (rec .ready none)) = W1:=⟨_,rfl⟩
 have hL1:W1.heap[w.heap.size + 1]? = some (.loop (rec .ready none)):=by
  rw [← hW1];have:=World.alloc_heap_new (w.alloc (.deferred (some []))) (.loop (rec .ready none));rwa [World.size_alloc] at this
 have hK1:W1.heap[w.heap.size]? = some (.deferred (some [])):=by
  rw [← hW1];exact (Below.heap_alloc _ _ _ (by simp)).trans (World.alloc_heap_new w _)
 have hg1:w.grownBy W1 none:=by
  rw [← hW1]
  exact ⟨rfl,rfl,rfl,by simp;omega,fun k hk _=>(Below.heap_alloc _ _ k (by simp;omega)).trans (Below.heap_alloc w _ k hk)⟩
 have hI1:I [] W1:=hI _ _ _ none h0 hg1 (fun r e=>by cases e)
 have hS1 : ∀ k,S ≤ k → k < S + 3 → W1.heap[k]? = w.heap[k]?:=fun k _ hk=>hg1.block k (by omega) (by simp)
 refine ⟨w.heap.size + 1,[{ target := .collected w.heap.size,args := #[] }],W1, { target := .fn (.func gf) lb,args := #[.func (.yield (w.heap.size + 1)) #[] #[]] },W1,gf,
  #[.func (.yield (w.heap.size + 1)) #[] #[]] ++ lb,W1,?_,?_,?_,?_,fun _=>h1,?_⟩
 ·rw [← hW1,hrec];exact run_enterLoop_outer _ _ _ _ _
 ·simp only [resolve,hg]
  simp [go_sem]
 ·intro f' hf';simp [Target.leads] at hf';subst hf';exact hFg
 ·simp [invoke,go_sem,eg]
 ·have hput : ∀ (W:World) (ob:Obj) (s:List (List UInt8)),I s W → I s (W.putObj (w.heap.size + 1) ob):=fun W ob s hi=>hI _ _ _ _ hi (grownBy_putObj' W (w.heap.size + 1) ob) (fun r e=>by cases e;omega)
  have hputx : ∀ (W:World) (ob:Obj) (s:List (List UInt8)),Ix s W → Ix s (W.putObj (w.heap.size + 1) ob):=fun W ob s hi=>hIx _ _ _ _ hi (grownBy_putObj' W (w.heap.size + 1) ob) (fun r e=>by cases e;omega)
  have hkeep : ∀ {A B:World} {k:Nat} {ob:Obj},A.grownBy B (some S) → w.heap.size ≤ k → A.heap[k]? = some ob → B.heap[k]? = some ob:=fun hg hk hh=>(hg.block _ (Array.getElem?_eq_some_iff.1 hh).1 (fun e=>by cases e;omega)).trans hh
  refine (hseq (w.heap.size + 1)
   (fun pre W=>I pre W ∧ W.heap[w.heap.size + 1]? = some (.loop (rec .ready none)) ∧ W.heap[w.heap.size]? = some (.deferred (some [])))
   (fun pre W=>Ix pre W ∧ W.heap[w.heap.size + 1]? = some (.loop (rec .done (some .ret))) ∧ W.heap[w.heap.size]? = some (.deferred (some [])))
   W1 hS1
   (fun s A B hs hg'=>⟨hI s A B _ hs.1 hg' (fun r e=>by cases e;exact Nat.le_refl _),hkeep hg' (by omega) hs.2.1,hkeep hg' (Nat.le_refl _) hs.2.2⟩)
   (fun s A B hs hg'=>⟨hIx s A B _ hs.1 hg' (fun r e=>by cases e;exact Nat.le_refl _),hkeep hg' (by omega) hs.2.1,hkeep hg' (Nat.le_refl _) hs.2.2⟩)
   ?_ ⟨hI1,hL1,hK1⟩).mono ?_
  ·rintro pre x W ⟨hi,hl,hk⟩ hpre
   have hlt:w.heap.size + 1 < W.heap.size:=(Array.getElem?_eq_some_iff.1 hl).1
   have hy:=run_yield (P:=P) (args := #[.string ⟨x.toArray⟩]) hl (by rw [hrec];simp [hps])
   rw [hrec] at hy
   refine ⟨fn,_,assign,body,hy,roundIn_of_wpIn hfn (hassign _ x W _ ⟨_,run_beginRound hl (by rw [hrec]),?_⟩)⟩
   have hl2:(W.putObj (w.heap.size + 1) (.loop { rec .ready none with state := .busy })).heap[w.heap.size + 1]? = some (.loop { rec .ready none with state := .busy }):=World.putObj_heap_same hlt
   have hk2:(W.putObj (w.heap.size + 1) (.loop { rec .ready none with state := .busy })).heap[w.heap.size]? = some (.deferred (some [])):=(World.putObj_heap_other (by omega)).trans hk
   have hs2 : ∀ k,S ≤ k → k < S + 3 → (W.putObj (w.heap.size + 1) (.loop { rec .ready none with state := .busy })).heap[k]? = W.heap[k]?:=fun k _ hk=>World.putObj_heap_other (by omega)
   have hz2:(W.putObj (w.heap.size + 1) (.loop { rec .ready none with state := .busy })).heap.size = W.heap.size:=World.putObj_size
   rw [hrec] at hl2 hk2 hs2 hz2
   refine wpIn_mono (hbody _ pre x _ (hput _ _ _ hi) hpre (by rw [World.putObj_size];omega)) ?_
   have fin : ∀ (jump:Option Code) (W3:World),RoundKeeps S (W.putObj (w.heap.size + 1) (.loop { state := .busy,pending:=none,fn,tmps:=a.tmps,params:=ps,assign,body,defers:=w.heap.size })) W3 →
     (Instr.endRound (w.heap.size + 1) jump).run P W3 = .ok (.bool jump.isNone) (W3.putObj (w.heap.size + 1) (.loop (rec (if jump.isNone then .ready else .done) jump))) ∧
     (W3.putObj (w.heap.size + 1) (.loop (rec (if jump.isNone then .ready else .done) jump))).heap[w.heap.size + 1]? = some (.loop (rec (if jump.isNone then .ready else .done) jump)) ∧
     (W3.putObj (w.heap.size + 1) (.loop (rec (if jump.isNone then .ready else .done) jump))).heap[w.heap.size]? = some (.deferred (some [])) ∧
     (∀ k,S ≤ k → k < S + 3 → (W3.putObj (w.heap.size + 1) (.loop (rec (if jump.isNone then .ready else .done) jump))).heap[k]? = W.heap[k]?):=fun jump W3 hk3=>by
    have hl3:=(hk3.same _ (by rw [hz2];omega) (by omega)).trans hl2
    have:=run_endRound (P:=P) jump hl3
    refine ⟨by rw [hrec];exact this,World.putObj_heap_same (Array.getElem?_eq_some_iff.1 hl3).1,(World.putObj_heap_other (by omega)).trans ((hk3.same _ (by rw [hz2];omega) (by omega)).trans hk2),fun k h1 h2=>(World.putObj_heap_other (by omega)).trans ((hk3.same _ (by rw [hz2];omega) h1).trans (hs2 k h1 h2))⟩
   rintro e a3 W3 hp
   cases e with
   | normal =>
     obtain ⟨hk3,hi3⟩:=hp
     obtain ⟨hr,hl4,hk4,hs4⟩:=fin none W3 (by rw [hrec] at hk3;exact hk3)
     exact ⟨_,_,hr,.inl ⟨rfl,⟨hput _ _ _ hi3,hl4,hk4⟩,hs4⟩⟩
   | ret =>
     obtain ⟨hk3,hi3⟩:=hp
     obtain ⟨hr,hl4,hk4,hs4⟩:=fin (some .ret) W3 (by rw [hrec] at hk3;exact hk3)
     exact ⟨_,_,hr,.inr ⟨rfl,hputx _ _ _ hi3,hl4,hk4⟩⟩
   | exit id=>exact hp.elim
   | goto t=>exact hp.elim
   | panic ch=>exact hp.elim
   | outgrown=>exact hp.elim
  ·rintro e W2 ⟨⟨v,rfl⟩,(⟨hi,hl,hk⟩|⟨pre,hpre,hi,hl,hk⟩)⟩
   ·exact ⟨none,_,by have:=run_endLoop (P:=P) hl (by rw [hrec];simp);rw [hrec] at this;exact this,hdone _ (hput _ _ _ hi) ((World.putObj_heap_other (by omega)).trans hk)⟩
   ·exact ⟨some .ret,_,by have:=run_endLoop (P:=P) hl (by rw [hrec];simp);rw [hrec] at this;exact this,hstop pre _ hpre (hputx _ _ _ hi) ((World.putObj_heap_other (by omega)).trans hk)⟩
end Go.Ab
