import Derived.Test.YtnhpclmbhbblbaaGreatDoorLz5
set_option linter.unusedSimpArgs false
set_option linter.unusedVariables false
namespace Go.Ab
open Go.RowKit
theorem M.undef (F:Still) (ρ:Places):M F ρ undef (.tup []) := .tup _ [] [] rfl (fun i v x h=>by cases i<;>cases h)
structure St where
 ts:List (Nat × AV)
 hs:List (Nat × HB)
 nx:Nat
def qr:List (Nat × AV) → Nat → AV
 | [],_ => .junk
 | (j,x) :: l,i=>if j = i then x else qr l i
def qB (l:List (Nat × HB)) (n:Nat):HB:=(yn l n).getD .dead
def Gs (B:Base) (σ:St) (a:Act) (w:World):Prop:=Ga B (· < σ.nx) (qr σ.ts) (qB σ.hs) a w
def qb8 (C:Cx) (N:Nat) (B:Base):Prop:=B.N = N ∧ ∀ n,B.ρ0 n ≠ none → n < C.nh
def Awp (C:Cx) (N:Nat) (c:Code) (Q:Exit → St → Prop) (σ:St):Prop :=
 ∀ B a w,qb8 C N B → Gs B σ a w → c.wp C.P (fun e a' w' => ∃ σ',Q e σ' ∧ Gs B σ' a' w') a w
def thn (K:St → Prop) (Q:Exit → St → Prop):Exit → St → Prop
 | .normal,σ=>K σ
 | e,σ=>Q e σ
def inb (id:Nat) (Q:Exit → St → Prop):Exit → St → Prop
 | .exit id',σ=>if id' = id then Q .normal σ else Q (.exit id') σ
 | e,σ=>Q e σ
section code
variable {C:Cx} {N:Nat} {Q:Exit → St → Prop} {σ:St}
theorem Awp.mono {c:Code} {Q' : Exit → St → Prop} (h:Awp C N c Q σ) (hq : ∀ e σ,Q e σ → Q' e σ):Awp C N c Q' σ :=
 fun B a w hN g=>wp_mono (h B a w hN g) fun e a' w' ⟨σ',q,g'⟩=>⟨σ',hq _ _ q,g'⟩
theorem Kj {x y:Code} (h : ∀ K:St → Prop,(∀ σ,Awp C N y Q σ → K σ) → Awp C N x (thn K Q) σ):Awp C N (.seq x y) Q σ:=by
 intro B a w hN g
 refine wp_seq (wp_mono (h _ (fun σ h=>h) B a w hN g) ?_)
 intro e a' w' ⟨σ',q,g'⟩
 cases e with
 | normal=>exact q B a' w' hN g'
 | _=>exact ⟨σ',q,g'⟩
theorem Jf {x y:Code} (h:Awp C N x (thn (fun σ=>Awp C N y Q σ) Q) σ):Awp C N (.seq x y) Q σ:=Kj fun K hK=>h.mono fun e σ q=>by cases e<;>first|exact hK _ q|exact q
theorem JL (h:Q .normal σ):Awp C N .skip Q σ:=fun _ _ _ _ g=>wp_skip ⟨σ,h,g⟩
theorem Xi (h:Q .ret σ):Awp C N .ret Q σ:=fun _ _ _ _ g=>wp_ret ⟨σ,h,g⟩
theorem JK {id:Nat} (h:Q (.exit id) σ):Awp C N (.exit id) Q σ:=fun _ _ _ _ g=>wp_exit ⟨σ,h,g⟩
theorem zU {c:Operand} {x y:Code} (hc:evA (qr σ.ts) c = .v (.bool true)) (h:Awp C N x Q σ):Awp C N (.cond c x y) Q σ:=by
 intro B a w hN g
 have he:a.eval c = .bool true:=by
  obtain ⟨_,_,F,ρ,_,g4⟩:=g
  have:=qi (x:=c) (rt:=jC c) (fun j _=>g4 j) (fun j hj=>hj)
  rw [hc] at this
  exact this.v_inv.1
 exact wp_cond_true he (h B a w hN g)
theorem zT {c:Operand} {x y:Code} (hc:evA (qr σ.ts) c = .v (.bool false)) (h:Awp C N y Q σ):Awp C N (.cond c x y) Q σ:=by
 intro B a w hN g
 have he:a.eval c = .bool false:=by
  obtain ⟨_,_,F,ρ,_,g4⟩:=g
  have:=qi (x:=c) (rt:=jC c) (fun j _=>g4 j) (fun j hj=>hj)
  rw [hc] at this
  exact this.v_inv.1
 exact wp_cond_false he (h B a w hN g)
theorem We {c:Operand} {x y:Code} {b:Bool} (hc:evA (qr σ.ts) c = .v (.bool b)) (ht:b = true → Awp C N x Q σ) (hf:b = false → Awp C N y Q σ):Awp C N (.cond c x y) Q σ:=by
 intro B a w hN g
 have he:a.eval c = .bool b:=by
  obtain ⟨_,_,F,ρ,_,g4⟩:=g
  have:=qi (x:=c) (rt:=jC c) (fun j _=>g4 j) (fun j hj=>hj)
  rw [hc] at this
  exact this.v_inv.1
 exact wp_cond_split he (fun hb=>ht hb B a w hN g) (fun hb=>hf hb B a w hN g)
theorem M.anyb_inv {F:Still} {ρ:Places} {v:Value} (h:M F ρ v .anyb) : ∃ b,v = .bool b:=by cases h with|anyb _ b=>exact ⟨b,rfl⟩
theorem Xh {c:Operand} {x y:Code} (hc:evA (qr σ.ts) c = .anyb) (ht:Awp C N x Q σ) (hf:Awp C N y Q σ):Awp C N (.cond c x y) Q σ:=by
 intro B a w hN g
 have he : ∃ b,a.eval c = .bool b:=by
  obtain ⟨_,_,F,ρ,_,g4⟩:=g
  have:=qi (x:=c) (rt:=jC c) (fun j _=>g4 j) (fun j hj=>hj)
  rw [hc] at this
  exact this.anyb_inv
 obtain ⟨b,he⟩:=he
 exact wp_cond_split he (fun _=>ht B a w hN g) (fun _=>hf B a w hN g)
theorem wB {c:Operand} {x y:Code} {b:Bool} (hc:evA (qr σ.ts) c = .v (.bool b)) (hb:b = true) (h:Awp C N x Q σ):Awp C N (.cond c x y) Q σ:=zU (hb ▸ hc) h
theorem wA {c:Operand} {x y:Code} {b:Bool} (hc:evA (qr σ.ts) c = .v (.bool b)) (hb:b = false) (h:Awp C N y Q σ):Awp C N (.cond c x y) Q σ:=zT (hb ▸ hc) h
theorem Qz {id:Nat} {c:Code} (h:Awp C N c (inb id Q) σ):Awp C N (.block id c) Q σ:=by
 intro B a w hN g
 refine wp_block (wp_mono (h B a w hN g) ?_)
 intro e a' w' ⟨σ',q,g'⟩
 cases e with
 | exit id' =>
   unfold Exit.inBlock
   unfold inb at q
   by_cases he:id' = id
   ·simp only [he,if_true] at q ⊢;exact ⟨σ',q,g'⟩
   ·simp only [he,if_false] at q ⊢;exact ⟨σ',q,g'⟩
 | _=>exact ⟨σ',q,g'⟩
def Red (C:Cx) (σ τ:St):Prop := ∀ B a w,(∀ n,B.ρ0 n ≠ none → n < C.nh) → Gs B σ a w → Gs B τ a w
theorem Awp.red {c:Code} {τ:St} (hr:Red C σ τ) (h:Awp C N c Q τ):Awp C N c Q σ:=fun B a w hN g=>h B a w hN (hr B a w hN.2 g)
theorem Awp.post {c:Code} {Q' : Exit → St → Prop} (h:Awp C N c Q' σ) (hq : ∀ e σ,Q' e σ → ∃ τ,Red C σ τ ∧ Q e τ):Awp C N c Q σ :=
 fun B a w hN g=>wp_mono (h B a w hN g) fun e a' w' ⟨σ',q,g'⟩=>let ⟨τ,hr,hq'⟩:=hq _ _ q; ⟨τ,hq',hr B a' w' hN.2 g'⟩
theorem Red.refl (σ:St):Red C σ σ:=fun _ _ _ _ g=>g
theorem Red.trans {σ τ υ:St} (h:Red C σ τ) (k:Red C τ υ):Red C σ υ:=fun B a w hh g=>k B a w hh (h B a w hh g)
theorem Z0 {P:Nat → Prop} (h : ∃ n,P n) : ∃ n,P n ∧ ∀ m,P m → n ≤ m:=by
 obtain ⟨n,hn⟩:=h
 induction n using Nat.strongRecOn with
 | _ n ih =>
   by_cases hs : ∃ m,m < n ∧ P m
   ·obtain ⟨m,hm,hp⟩:=hs;exact ih m hm hp
   ·exact ⟨n,hn,fun m hm=>Nat.le_of_not_lt fun hlt=>hs ⟨m,hlt,hm⟩⟩
theorem jr {c:Code} (I:Nat → St → Prop) (n:Nat) (h0:I n σ) (round : ∀ n σ,I n σ → Awp C N c (thn (fun σ' => ∃ m τ,m < n ∧ Red C σ' τ ∧ I m τ) Q) σ):Awp C N (.loop c) Q σ:=by
 intro B a w hN g
 classical
 let J:Act → World → Nat → Prop:=fun a w n => ∃ σ,I n σ ∧ Gs B σ a w
 let μ:Act → World → Nat:=fun a w=>if h : ∃ n,J a w n then Classical.choose (Z0 h) else 0
 refine wp_loop (fun a w => ∃ n,J a w n) μ ⟨n,σ,h0,g⟩ ?_
 intro a w hJ
 have hμ:μ a w = Classical.choose (Z0 hJ):=by simp only [μ];rw [dif_pos hJ]
 obtain ⟨σ',hI,g'⟩:=(Classical.choose_spec (Z0 hJ)).1
 refine wp_mono (round _ σ' hI B a w hN g') ?_
 intro e a' w' ⟨σ'',q,g''⟩
 cases e with
 | normal =>
   obtain ⟨m,τ,hm,hr,hI'⟩:=q
   have hJ' : J a' w' m:=⟨τ,hI',hr B a' w' hN.2 g''⟩
   refine ⟨⟨m,hJ'⟩,?_⟩
   rw [hμ]
   have hμ' : μ a' w' ≤ m:=by simp only [μ];rw [dif_pos ⟨m,hJ'⟩];exact (Classical.choose_spec (Z0 ⟨m,hJ'⟩)).2 m hJ'
   omega
 | _=>exact ⟨σ'',q,g''⟩
end code
section ops
variable {C:Cx} {N:Nat} {all:Array Oper}
theorem XQ {R V:Type} (W:Eff → R → Option V) (D:Nat → Bool) : ∀ (Es Fs:List Eff) (i:Nat) (x:R → V),run W D i (Es ++ Fs) x = run W D (i + Es.length) Fs (run W D i Es x)
 | [],_,_,_=>rfl
 | E :: Es,Fs,i,x=>by
   simp only [List.cons_append,run,List.length_cons]
   rw [XQ W D Es Fs (i + 1),show i + 1 + Es.length = i + (Es.length + 1) from by omega]
theorem Qq {R V:Type} (W:Eff → R → Option V) (Es:List Eff) (E:Eff) (x:R → V) (i:Nat) (hi:i ≤ Es.length):run W (yz i) 0 (Es ++ [E]) x = run W (yz i) 0 Es x:=by
 rw [XQ]
 simp only [run,Nat.zero_add]
 have:yz i Es.length = false:=by simp [yz];omega
 simp [this]
theorem ww {R V:Type} (W:Eff → R → Option V) (Es:List Eff) (E:Eff) (x:R → V):run W (yz (Es.length + 1)) 0 (Es ++ [E]) x = fun r=>(W E r).getD (run W (yz Es.length) 0 Es x r):=by
 rw [XQ]
 simp only [run,Nat.zero_add]
 have h1:yz (Es.length + 1) Es.length = true:=by simp [yz]
 funext r
 simp only [h1,if_true]
 congr 1
 exact vQ W _ _ r Es 0 x x rfl fun j E' hj _=>by
  have:=(List.getElem?_eq_some_iff.1 hj).1
  simp only [yz,decide_eq_decide];omega
def Zc (C:Cx) (B:Base) (ch:List PanicEntry) (a:Act) (w:World):Prop := ∃ ts hs nx,C.die ch ts hs ∧ Gs B ⟨ts,hs,nx⟩ a w
structure Chain (C:Cx) (N:Nat) (all:Array Oper) (σ0:St) (es:List Eff) (σ:St):Prop where
 ok : ∀ (i:Nat) (E:Eff),es.reverse[i]? = some E → V5 C.P (Zc C) all N i (zg (yz i) 0 es.reverse (qr σ0.ts)) (ze (yz i) 0 es.reverse (qB σ0.hs)) E
 t:zg (yz es.length) 0 es.reverse (qr σ0.ts) = qr σ.ts
 h:ze (yz es.length) 0 es.reverse (qB σ0.hs) = qB σ.hs
 fr:vx σ0.nx (es.reverse.flatMap Eff.fr) = true
 nx : ∀ n,n ∈ es.reverse.flatMap Eff.fr → n < σ.nx
 le:σ0.nx ≤ σ.nx
theorem Vv : ∀ (l m:List Nat) (lo hi:Nat),vx lo l = true → (∀ n,n ∈ l → n < hi) → lo ≤ hi → vx hi m = true → vx lo (l ++ m) = true
 | [],m,lo,hi,_,_,h,hm=>by
   cases m with
   | nil=>rfl
   | cons x m=>simp only [List.nil_append,vx,Bool.and_eq_true,decide_eq_true_eq] at hm ⊢;exact ⟨by omega,hm.2⟩
 | x :: l,m,lo,hi,h1,h2,h3,hm=>by
   simp only [List.cons_append,vx,Bool.and_eq_true,decide_eq_true_eq] at h1 ⊢
   exact ⟨h1.1,Vv l m (x + 1) hi h1.2 (fun n hn=>h2 n (List.mem_cons_of_mem _ hn)) (h2 x (List.mem_cons_self ..)) hm⟩
theorem Chain.cons {σ0 σ τ:St} {es:List Eff} {E:Eff} (hc:Chain C N all σ0 es σ) (hE:V5 C.P (Zc C) all N es.length (qr σ.ts) (qB σ.hs) E) (ht:E.t (qr σ.ts) = qr τ.ts) (hh:E.h (qB σ.hs) = qB τ.hs)
  (hf:vx σ.nx E.fr = true) (hn : ∀ n,n ∈ E.fr → n < τ.nx) (hle:σ.nx ≤ τ.nx):Chain C N all σ0 (E :: es) τ:=by
 have hrev:(E :: es).reverse = es.reverse ++ [E]:=List.reverse_cons
 refine ⟨?_,?_,?_,?_,?_,Nat.le_trans hc.le hle⟩
 ·intro i E' hi
  rw [hrev] at hi ⊢
  have hil:i ≤ es.reverse.length:=by have:=(List.getElem?_eq_some_iff.1 hi).1;simp at this;simp;omega
  unfold zg ze
  rw [Qq Eff.wT _ _ _ _ hil,Qq Eff.wH _ _ _ _ hil]
  by_cases hlt:i < es.reverse.length
  ·rw [List.getElem?_append_left hlt] at hi
   exact hc.ok i E' hi
  ·have hieq:i = es.reverse.length:=by omega
   subst hieq
   rw [List.getElem?_append_right (Nat.le_refl _)] at hi
   simp at hi
   subst hi
   have h1:=hc.t;have h2:=hc.h
   unfold zg at h1;unfold ze at h2
   rw [List.length_reverse,h1,h2]
   exact hE
 ·rw [hrev]
  unfold zg
  rw [show (E :: es).length = es.reverse.length + 1 from by simp,ww]
  have h1:=hc.t
  unfold zg at h1
  rw [List.length_reverse,h1]
  exact ht
 ·rw [hrev]
  unfold ze
  rw [show (E :: es).length = es.reverse.length + 1 from by simp,ww]
  have h1:=hc.h
  unfold ze at h1
  rw [List.length_reverse,h1]
  exact hh
 ·rw [hrev,List.flatMap_append]
  exact Vv _ _ _ σ.nx hc.fr hc.nx hc.le (by simpa using hf)
 ·intro n hn'
  rw [hrev,List.flatMap_append,List.mem_append] at hn'
  rcases hn' with hn'|hn'
  ·exact Nat.lt_of_lt_of_le (hc.nx n hn') hle
  ·exact hn n (by simpa using hn')
def jW (C:Cx) (N:Nat) (all:Array Oper) (es:List Eff) (σ:St) (os:List Oper) (K:List Eff → St → Prop):Prop :=
 ∀ σ0,Chain C N all σ0 es σ → all.toList.drop es.length = os → ∃ es' σ',Chain C N all σ0 es' σ' ∧ es'.length = all.size ∧ K es' σ'
def jn (all:Array Oper) (o:Oper) (gd:List Nat) (t:Nat → AV):Prop :=
 ∀ (F:Still) (ρ:Places) (a:Act),(∀ j,j ∈ gd → M F ρ (a.tmps.getD j undef) (t j)) → Region.wanted o (yielded all a.tmps) = true
def jh (C:Cx) (N:Nat) (all:Array Oper) (gd:List Nat) (es:List Eff) (σ:St) (o:Oper) (os:List Oper) (K:List Eff → St → Prop):Prop :=
 jn all o gd (qr σ.ts) → jW C N all es σ (o :: os) K
variable {es:List Eff} {K:List Eff → St → Prop} {os:List Oper} {o:Oper}
theorem Jr {σ:St} (hl:es.length ≤ all.size) (h:K es σ):jW C N all es σ [] K:=by
 intro σ0 hc hd
 have:all.size ≤ es.length:=by
  have:=congrArg List.length hd
  simp at this;omega
 exact ⟨es,σ,hc,by omega,h⟩
theorem QB {l:List Oper} {n:Nat} (h:l.drop n = o :: os):l[n]? = some o ∧ l.drop (n + 1) = os:=by
 constructor
 ·rw [← List.head?_drop,h];rfl
 ·rw [← List.tail_drop,h];rfl
theorem Qg {σ:St} {d:Option Tmp} {op:Op} {ty:TypeId} {pos:String} {af:Array Edge} (h:jh C N all [] es σ ⟨d,op,ty,pos,af,none⟩ os K):jW C N all es σ (⟨d,op,ty,pos,af,none⟩ :: os) K :=
 h fun _ _ _ _=>rfl
theorem v6 {σ τ:St} {gd:List Nat} {E:Eff} (hE:qD C.P N o (qr σ.ts) (qB σ.hs) E) (ht:E.t (qr σ.ts) = qr τ.ts) (hh:E.h (qB σ.hs) = qB τ.hs)
  (hf:vx σ.nx E.fr = true) (hn : ∀ n,n ∈ E.fr → n < τ.nx) (hle:σ.nx ≤ τ.nx) (h:jW C N all (⟨gd ++ E.rt,E.rh,E.wt,E.val,E.wh,E.fr⟩ :: es) τ os K):jh C N all gd es σ o os K:=by
 intro hw σ0 hc hd
 obtain ⟨ho,hd'⟩:=QB hd
 rw [Array.getElem?_toList] at ho
 have hOp:V5 C.P (Zc C) all N es.length (qr σ.ts) (qB σ.hs) ⟨gd ++ E.rt,E.rh,E.wt,E.val,E.wh,E.fr⟩:=by
  intro B A t' h' a w Q K' hBN hZ hAm g hrt hrh hfr hK
  unfold wpOp
  simp only [ho]
  have hwant:Region.wanted o (yielded all a.tmps) = true:=by
   obtain ⟨_,_,F,ρ,_,g4⟩:=g
   exact hw F ρ a fun j hj=>(hrt j (List.mem_append_left _ hj)) ▸ g4 j
  rw [if_pos hwant]
  exact .inl (hE B A t' h' a w Q K' hBN g (fun j hj=>hrt j (List.mem_append_right _ hj)) hrh hfr hK)
 exact h σ0 (hc.cons hOp ht hh hf hn hle) hd'
theorem qb {ts:List (Nat × AV)} {hs:List (Nat × HB)} {nx:Nat} {gd rt rh:List Nat} {d:Nat} {x:AV} (hE:qD C.P N o (qr ts) (qB hs) ⟨rt,rh,some d,x,[],[]⟩)
  (h:jW C N all (⟨gd ++ rt,rh,some d,x,[],[]⟩ :: es) ⟨(d,x) :: ts,hs,nx⟩ os K):jh C N all gd es ⟨ts,hs,nx⟩ o os K:=by
 refine v6 (τ:=⟨(d,x) :: ts,hs,nx⟩) hE ?_ ?_ rfl (by simp) (Nat.le_refl _) h
 ·funext i;simp only [Eff.t,Eff.wT,Option.some.injEq,qr];split<;>rfl
 ·funext n;rfl
theorem yJ {ts:List (Nat × AV)} {hs:List (Nat × HB)} {nx:Nat} {gd rt rh:List Nat} {d:Nat} {x:AV} {hb:HB} (hE:qD C.P N o (qr ts) (qB hs) ⟨rt,rh,some d,x,[(nx,hb)],[nx]⟩)
  (h:jW C N all (⟨gd ++ rt,rh,some d,x,[(nx,hb)],[nx]⟩ :: es) ⟨(d,x) :: ts,(nx,hb) :: hs,nx + 1⟩ os K):jh C N all gd es ⟨ts,hs,nx⟩ o os K:=by
 refine v6 (τ:=⟨(d,x) :: ts,(nx,hb) :: hs,nx + 1⟩) hE ?_ ?_ (by simp [vx]) (by simp) (Nat.le_succ _) h
 ·funext i;simp only [Eff.t,Eff.wT,Option.some.injEq,qr];split<;>rfl
 ·funext n
  simp only [Eff.h,Eff.wH,yn,qB]
  split<;>rfl
theorem WM {ts:List (Nat × AV)} {hs:List (Nat × HB)} {nx:Nat} {gd rt rh:List Nat} {d:Nat} {x:AV} {hb hb' : HB} {m:Nat} (hE:qD C.P N o (qr ts) (qB hs) ⟨rt,rh,some d,x,[(nx,hb),(m,hb')],[nx]⟩)
  (h:jW C N all (⟨gd ++ rt,rh,some d,x,[(nx,hb),(m,hb')],[nx]⟩ :: es) ⟨(d,x) :: ts,(nx,hb) :: (m,hb') :: hs,nx + 1⟩ os K):jh C N all gd es ⟨ts,hs,nx⟩ o os K:=by
 refine v6 (τ:=⟨(d,x) :: ts,(nx,hb) :: (m,hb') :: hs,nx + 1⟩) hE ?_ ?_ (by simp [vx]) (by simp) (Nat.le_succ _) h
 ·funext i;simp only [Eff.t,Eff.wT,Option.some.injEq,qr];split<;>rfl
 ·funext n
  simp only [Eff.h,Eff.wH,yn,qB]
  split
  ·rfl
  ·split<;>rfl
theorem jD {ts:List (Nat × AV)} {hs:List (Nat × HB)} {nx:Nat} {gd rt rh:List Nat} {x:AV} {hb:HB} {m:Nat} (hE:qD C.P N o (qr ts) (qB hs) ⟨rt,rh,none,x,[(m,hb)],[]⟩)
  (h:jW C N all (⟨gd ++ rt,rh,none,x,[(m,hb)],[]⟩ :: es) ⟨ts,(m,hb) :: hs,nx⟩ os K):jh C N all gd es ⟨ts,hs,nx⟩ o os K:=by
 refine v6 (τ:=⟨ts,(m,hb) :: hs,nx⟩) hE ?_ ?_ rfl (by simp) (Nat.le_refl _) h
 ·funext i;simp only [Eff.t,Eff.wT,reduceCtorEq,if_false,Option.getD_none]
 ·funext n
  simp only [Eff.h,Eff.wH,yn,qB]
  split<;>rfl
theorem xN {ts:List (Nat × AV)} {hs:List (Nat × HB)} {nx:Nat} {j d d' : Nat} {b c:Bool} (hg:o.guard = some (j,b)) (hd:(all[j]?).bind (·.dst) = some d) (hv:qr ts d = .v (.bool c)) (hdst:o.dst = some d') (hN:d' < N)
  (hy:c = b → jh C N all [d] es ⟨ts,hs,nx⟩ o os K) (hno:c = !b → jW C N all (⟨[d],[],some d',.tup [],[],[]⟩ :: es) ⟨(d',.tup []) :: ts,hs,nx⟩ os K):jW C N all es ⟨ts,hs,nx⟩ (o :: os) K:=by
 have hyield : ∀ (F:Still) (ρ:Places) (a:Act),M F ρ (a.tmps.getD d undef) (qr ts d) → yielded all a.tmps j = some c:=by
  intro F ρ a hm
  rw [hv] at hm
  have hm:=hm.v_inv.1
  unfold yielded
  rw [hd]
  rw [Array.getD_eq_getD_getElem?] at hm
  cases hget:a.tmps[d]? with
  | none=>rw [hget] at hm;cases hm
  | some u=>rw [hget] at hm;simp only [Option.getD_some] at hm;subst hm;simp [hget]
 by_cases hcb:c = b
 ·refine hy hcb fun F ρ a hm=>?_
  unfold Region.wanted
  rw [hg]
  show (yielded all a.tmps j == some b) = true
  rw [hyield F ρ a (hm d (by simp)),hcb]
  simp
 ·have hcb' : c = !b:=by cases c<;>cases b<;>simp_all
  intro σ0 hch hdr
  obtain ⟨ho,hd'⟩:=QB hdr
  rw [Array.getElem?_toList] at ho
  have hOp:V5 C.P (Zc C) all N es.length (qr ts) (qB hs) ⟨[d],[],some d',.tup [],[],[]⟩:=by
   intro B A t' h' a w Q K' hBN hZ hAm g hrt hrh hfr hK
   unfold wpOp
   simp only [ho]
   obtain ⟨g1,g2,F,ρ,hp,g4⟩:=g
   have hwant:Region.wanted o (yielded all a.tmps) = false:=by
    have hm:=g4 d
    rw [hrt d (by simp)] at hm
    unfold Region.wanted
    rw [hg]
    show (yielded all a.tmps j == some b) = false
    rw [hyield F ρ a hm,hcb']
    cases b<;>rfl
   rw [if_neg (by simp [hwant])]
   refine hK _ _ ⟨by simpa [Act.put,hdst] using g1,by rw [xS];exact g2,F,ρ,hp.weaken fun n hn => .inl hn,fun i=>?_⟩
   rw [hdst,vA _ _ _ _ (by omega)]
   unfold Eff.t Eff.wT
   by_cases hi:d' = i
   ·subst hi;simpa using M.undef F ρ
   ·simpa [hi] using g4 i
  refine hno hcb' σ0 (hch.cons hOp ?_ ?_ rfl (by simp) (Nat.le_refl _)) hd'
  ·funext i;simp only [Eff.t,Eff.wT,Option.some.injEq,qr];split<;>rfl
  ·funext n;rfl
section guards
variable {ts:List (Nat × AV)} {hs:List (Nat × HB)} {nx:Nat} {j d d' : Nat} {op:Op} {ty:TypeId} {pos:String} {af:Array Edge}
theorem Qk (hd:(all[j]?).bind (·.dst) = some d) (hv:qr ts d = .v (.bool true)) (hN:d' < N) (hy:jh C N all [d] es ⟨ts,hs,nx⟩ ⟨some d',op,ty,pos,af,some (j,true)⟩ os K):jW C N all es ⟨ts,hs,nx⟩ (⟨some d',op,ty,pos,af,some (j,true)⟩ :: os) K :=
 xN rfl hd hv rfl hN (fun _=>hy) nofun
theorem Qj (hd:(all[j]?).bind (·.dst) = some d) (hv:qr ts d = .v (.bool false)) (hN:d' < N) (hy:jh C N all [d] es ⟨ts,hs,nx⟩ ⟨some d',op,ty,pos,af,some (j,false)⟩ os K):jW C N all es ⟨ts,hs,nx⟩ (⟨some d',op,ty,pos,af,some (j,false)⟩ :: os) K :=
 xN rfl hd hv rfl hN (fun _=>hy) nofun
theorem wl (hd:(all[j]?).bind (·.dst) = some d) (hv:qr ts d = .v (.bool false)) (hN:d' < N) (hno:jW C N all (⟨[d],[],some d',.tup [],[],[]⟩ :: es) ⟨(d',.tup []) :: ts,hs,nx⟩ os K):jW C N all es ⟨ts,hs,nx⟩ (⟨some d',op,ty,pos,af,some (j,true)⟩ :: os) K :=
 xN rfl hd hv rfl hN nofun (fun _=>hno)
theorem wk (hd:(all[j]?).bind (·.dst) = some d) (hv:qr ts d = .v (.bool true)) (hN:d' < N) (hno:jW C N all (⟨[d],[],some d',.tup [],[],[]⟩ :: es) ⟨(d',.tup []) :: ts,hs,nx⟩ os K):jW C N all es ⟨ts,hs,nx⟩ (⟨some d',op,ty,pos,af,some (j,false)⟩ :: os) K :=
 xN rfl hd hv rfl hN nofun (fun _=>hno)
theorem Js {b c:Bool} (hd:(all[j]?).bind (·.dst) = some d) (hv:qr ts d = .v (.bool c)) (hc:c = b) (hN:d' < N) (hy:jh C N all [d] es ⟨ts,hs,nx⟩ ⟨some d',op,ty,pos,af,some (j,b)⟩ os K):jW C N all es ⟨ts,hs,nx⟩ (⟨some d',op,ty,pos,af,some (j,b)⟩ :: os) K :=
 xN rfl hd hv rfl hN (fun _=>hy) (fun h=>by subst hc;cases c<;>cases h)
theorem Qi {c:Bool} (hd:(all[j]?).bind (·.dst) = some d) (hv:qr ts d = .v (.bool c)) (hc:c = false) (hN:d' < N) (hno:jW C N all (⟨[d],[],some d',.tup [],[],[]⟩ :: es) ⟨(d',.tup []) :: ts,hs,nx⟩ os K):jW C N all es ⟨ts,hs,nx⟩ (⟨some d',op,ty,pos,af,some (j,true)⟩ :: os) K :=
 xN rfl hd hv rfl hN (fun h=>by subst hc;cases h) (fun _=>hno)
theorem Qh {c:Bool} (hd:(all[j]?).bind (·.dst) = some d) (hv:qr ts d = .v (.bool c)) (hc:c = true) (hN:d' < N) (hno:jW C N all (⟨[d],[],some d',.tup [],[],[]⟩ :: es) ⟨(d',.tup []) :: ts,hs,nx⟩ os K):jW C N all es ⟨ts,hs,nx⟩ (⟨some d',op,ty,pos,af,some (j,false)⟩ :: os) K :=
 xN rfl hd hv rfl hN (fun h=>by subst hc;cases h) (fun _=>hno)
theorem VG {c:Bool} (hd:(all[j]?).bind (·.dst) = some d) (hv:qr ts d = .v (.bool c)) (hN:d' < N) (hy:c = true → jh C N all [d] es ⟨ts,hs,nx⟩ ⟨some d',op,ty,pos,af,some (j,true)⟩ os K)
  (hno:c = false → jW C N all (⟨[d],[],some d',.tup [],[],[]⟩ :: es) ⟨(d',.tup []) :: ts,hs,nx⟩ os K):jW C N all es ⟨ts,hs,nx⟩ (⟨some d',op,ty,pos,af,some (j,true)⟩ :: os) K :=
 xN rfl hd hv rfl hN hy hno
theorem VF {c:Bool} (hd:(all[j]?).bind (·.dst) = some d) (hv:qr ts d = .v (.bool c)) (hN:d' < N) (hy:c = false → jh C N all [d] es ⟨ts,hs,nx⟩ ⟨some d',op,ty,pos,af,some (j,false)⟩ os K)
  (hno:c = true → jW C N all (⟨[d],[],some d',.tup [],[],[]⟩ :: es) ⟨(d',.tup []) :: ts,hs,nx⟩ os K):jW C N all es ⟨ts,hs,nx⟩ (⟨some d',op,ty,pos,af,some (j,false)⟩ :: os) K :=
 xN rfl hd hv rfl hN hy hno
end guards
theorem vK {ts:List (Nat × AV)} {hs:List (Nat × HB)} {nx:Nat} {j d d' : Nat} {b:Bool} {op:Op} {ty:TypeId} {pos:String} {af:Array Edge} (hd:(all[j]?).bind (·.dst) = some d) (hv:qr ts d = .tup []) (hN:d' < N)
  (hno:jW C N all (⟨[d],[],some d',.tup [],[],[]⟩ :: es) ⟨(d',.tup []) :: ts,hs,nx⟩ os K):jW C N all es ⟨ts,hs,nx⟩ (⟨some d',op,ty,pos,af,some (j,b)⟩ :: os) K:=by
 have hg:(⟨some d',op,ty,pos,af,some (j,b)⟩ : Oper).guard = some (j,b):=rfl
 have hdst:(⟨some d',op,ty,pos,af,some (j,b)⟩ : Oper).dst = some d':=rfl
 generalize (⟨some d',op,ty,pos,af,some (j,b)⟩ : Oper) = o at *
 intro σ0 hch hdr
 obtain ⟨ho,hd'⟩:=QB hdr
 rw [Array.getElem?_toList] at ho
 have hOp:V5 C.P (Zc C) all N es.length (qr ts) (qB hs) ⟨[d],[],some d',.tup [],[],[]⟩:=by
  intro B A t' h' a w Q K' hBN hZ hAm g hrt hrh hfr hK
  unfold wpOp
  simp only [ho]
  obtain ⟨g1,g2,F,ρ,hp,g4⟩:=g
  have hwant:Region.wanted o (yielded all a.tmps) = false:=by
   have hm:=g4 d
   rw [hrt d (by simp),hv] at hm
   obtain ⟨vs,hm,hl,_⟩:=hm.tup_inv
   have hvs:vs = []:=List.eq_nil_of_length_eq_zero (by simpa using hl)
   subst hvs
   unfold Region.wanted
   rw [hg]
   show (yielded all a.tmps j == some b) = false
   have:yielded all a.tmps j = none:=by
    unfold yielded
    rw [hd]
    rw [Array.getD_eq_getD_getElem?] at hm
    cases hget:a.tmps[d]? with
    | none=>simp [hget]
    | some u=>rw [hget] at hm;simp only [Option.getD_some] at hm;subst hm;simp [hget]
   rw [this];rfl
  rw [if_neg (by simp [hwant])]
  refine hK _ _ ⟨by simpa [Act.put,hdst] using g1,by rw [xS];exact g2,F,ρ,hp.weaken fun n hn => .inl hn,fun i=>?_⟩
  rw [hdst,vA _ _ _ _ (by omega)]
  unfold Eff.t Eff.wT
  by_cases hi:d' = i
  ·subst hi;simpa using M.undef F ρ
  ·simpa [hi] using g4 i
 refine hno σ0 (hch.cons hOp ?_ ?_ rfl (by simp) (Nat.le_refl _)) hd'
 ·funext i;simp only [Eff.t,Eff.wT,Option.some.injEq,qr];split<;>rfl
 ·funext n;rfl
theorem yW {Q:Exit → St → Prop} {σ:St} {id:Nat} {l:List Oper} {draw:Bool}
  (h:jW C N l.toArray [] σ l fun es σ'=>(draw = true → km l es.reverse [] [] = true) ∧ Q .normal σ') (hdie : ∀ ch ts hs nx,C.die ch ts hs → Q (.panic ch) ⟨ts,hs,nx⟩:=by exact fun _ _ _ _ h=>h):Awp C N (.region id l.toArray draw) Q σ:=by
 intro B a w hN g
 have hZ : ∀ ch a' w',Zc C B ch a' w' → ∃ σ',Q (.panic ch) σ' ∧ Gs B σ' a' w':=fun ch a' w' ⟨ts,hs,nx,h1,h2⟩=>⟨_,hdie ch ts hs nx h1,h2⟩
 have hc0:Chain C N l.toArray σ [] σ:=⟨(fun i E hi=>by simp only [List.reverse_nil,List.getElem?_nil] at hi;cases hi),rfl,rfl,rfl,(fun n hn=>by cases hn),Nat.le_refl _⟩
 obtain ⟨es,σ',hc,hlen,hord,hq⟩:=h σ hc0 rfl
 have hlen' : es.reverse.length = l.toArray.size:=by simpa using hlen
 have hfin : ∀ a' w',Ga B (fun n=>n < σ.nx ∨ n ∈ es.reverse.flatMap Eff.fr) (zg (yz l.toArray.size) 0 es.reverse (qr σ.ts)) (ze (yz l.toArray.size) 0 es.reverse (qB σ.hs)) a' w' → ∃ σ',Q .normal σ' ∧ Gs B σ' a' w':=by
  intro a' w' g'
  refine ⟨σ',hq,?_⟩
  rw [← hlen,hc.t,hc.h] at g'
  refine g'.weaken fun n hn=>?_
  rcases hn with hn|hn
  ·exact Nat.lt_of_lt_of_le hn hc.le
  ·exact hc.nx n hn
 cases draw with
 | true =>
   refine ZC C.mixed hN.1 hZ es.reverse σ.nx (qr σ.ts) (qB σ.hs) (by simpa using hord rfl) hc.fr hc.ok ?_ g
   exact hfin
 | false =>
   refine wp_region ?_
   rw [List.range_eq_range']
   refine ZM hN.1 hZ es.reverse σ.nx (qr σ.ts) (qB σ.hs) hlen' hc.fr hc.ok (Q:=fun e a' w' => ∃ σ',Q e σ' ∧ Gs B σ' a' w') hfin l.toArray.size 0 (by omega) a w ?_
   have hz : ∀ {R V:Type} (W:Eff → R → Option V) (x:R → V),x = run W (yz 0) 0 es.reverse x:=by
    intro R V W x;funext r
    have : ∀ (Es:List Eff) (i:Nat) (y:R → V),run W (yz 0) i Es y r = y r:=by
     intro Es
     induction Es with
     | nil=>intro i y;rfl
     | cons E Es ih=>intro i y;simp only [run];rw [ih];simp [yz]
    exact (this _ 0 x).symm
   have e1:qr σ.ts = zg (yz 0) 0 es.reverse (qr σ.ts):=hz Eff.wT _
   have e2:qB σ.hs = ze (yz 0) 0 es.reverse (qB σ.hs):=hz Eff.wH _
   unfold Gs at g
   rw [e1,e2] at g
   exact g.weaken fun n hn => .inl hn
end ops
end Go.Ab
set_option linter.unusedSimpArgs false
set_option linter.unusedVariables false
namespace Go.Ab
open Go.RowKit
def one (r:AV):Nat → AV:=fun i=>if i = 0 then r else .junk
def qI (P:Program) (f:FuncId) (args:List AV) (H:List HB) (r:AV) (H' : List HB):Prop :=
 ∀ (B:Base) (vs:List Value) (w:World),vs.length = args.length → B.N = vs.length → Ga B (· < H.length) (fun i=>args.getD i .junk) (fun n=>H.getD n .dead) ⟨vs.toArray,[]⟩ w →
   Calls P f vs.toArray w fun e w' => ∃ v,e = .returned v ∧ Ga { B with N:=1 } (fun _=>True) (one r) (fun n=>H'.getD n .dead) ⟨#[v],[]⟩ w'
abbrev x6 (P:Program) (f:FuncId) (args:List AV) (r:AV):Prop:=qI P f args [] r []
def qZ:Nat → List AV → List (Nat × AV)
 | _,[] => []
 | i,x :: l=>(i,x) :: qZ (i + 1) l
def zi:Nat → List HB → List (Nat × HB)
 | _,[] => []
 | i,x :: l=>(i,x) :: zi (i + 1) l
theorem Ku (l:List AV) : ∀ (i j:Nat),qr (qZ i l) (i + j) = l.getD j .junk:=by
 induction l with
 | nil=>intro i j;rfl
 | cons x l ih =>
   intro i j
   cases j with
   | zero=>simp [qZ,qr]
   | succ j =>
     have:=ih (i + 1) j
     rw [show i + 1 + j = i + (j + 1) from by omega] at this
     simp only [qZ,qr]
     rw [if_neg (by omega),this]
     simp
theorem JV (l:List HB) : ∀ (i j:Nat),(yn (zi i l) (i + j)).getD .dead = l.getD j .dead:=by
 induction l with
 | nil=>intro i j;rfl
 | cons x l ih =>
   intro i j
   cases j with
   | zero=>simp [zi,yn]
   | succ j =>
     have:=ih (i + 1) j
     rw [show i + 1 + j = i + (j + 1) from by omega] at this
     simp only [zi,yn]
     rw [if_neg (by omega),this]
     simp
def Fin (C:Cx) (rs:Array ResultVar) (nh:Nat) (r:AV) (H' : List HB) (σ:St):Prop :=
 ∀ (fn:Func) (B:Base) (a:Act) (w:World),fn.results = rs → (∀ n,B.ρ0 n ≠ none → n < nh) → B.ds = [] → Gs B σ a w → ∃ v,(results fn a.tmps).run C.P w = .ok v w ∧ Ga { B with N:=1 } (fun _=>True) (one r) (fun n=>H'.getD n .dead) ⟨#[v],[]⟩ w
def qaE (C:Cx) (rs:Array ResultVar) (nh:Nat) (r:AV) (H' : List HB):Exit → St → Prop
 | .normal,σ | .ret,σ=>Fin C rs nh r H' σ
 | _,_=>False
theorem Zh {fn:Func} {args:List AV} {H:List HB} {N:Nat} (hN:fn.ntmps = N) (hl:args.length ≤ N) {B:Base} {vs:List Value} {w:World} (hvs:vs.length = args.length) (hBN:B.N = vs.length)
  (g:Ga B (· < H.length) (fun i=>args.getD i .junk) (fun n=>H.getD n .dead) ⟨vs.toArray,[]⟩ w):(∀ n,B.ρ0 n ≠ none → n < H.length) ∧ ([]:List Deferred) = B.ds ∧ Gs { B with N:=N } ⟨qZ 0 args,zi 0 H,H.length⟩ { tmps:=vs.toArray ++ Array.replicate (fn.ntmps - vs.toArray.size) undef,defers:=[] } w:=by
 have hsz:(vs.toArray ++ Array.replicate (fn.ntmps - vs.toArray.size) undef).size = N:=by simp;omega
 have hρ0 : ∀ n,B.ρ0 n ≠ none → n < H.length:=by
  obtain ⟨_,_,F,ρ,hp,_⟩:=g
  intro n hn
  refine hp.dom n ?_
  cases h0:B.ρ0 n with
  | none=>exact absurd h0 hn
  | some c=>rw [hp.names n c h0];simp
 have hds:([]:List Deferred) = B.ds:=g.1
 have g' : Gs { B with N:=N } ⟨qZ 0 args,zi 0 H,H.length⟩ { tmps:=vs.toArray ++ Array.replicate (fn.ntmps - vs.toArray.size) undef,defers:=[] } w:=by
  obtain ⟨_,_,F,ρ,hp,g4⟩:=g
  refine ⟨hds,hsz,F,ρ,?_,fun i=>?_⟩
  ·have hh:qB (zi 0 H) = fun n=>H.getD n .dead:=by
    funext n
    have:=JV H 0 n
    rw [Nat.zero_add] at this
    exact this
   show Hp _ _ (qB (zi 0 H)) _ _ _
   rw [hh]
   exact { kept:=⟨hp.kept.os,hp.kept.tape,hp.kept.output,hp.kept.size,hp.kept.block⟩,agree:=hp.agree,grow:=hp.grow,fresh:=hp.fresh,names:=hp.names,dom:=hp.dom,own:=hp.own,new:=hp.new,sep:=hp.sep }
  ·have ht:qr (qZ 0 args) i = args.getD i .junk:=by
    have:=Ku args 0 i
    rw [Nat.zero_add] at this
    exact this
   show M F ρ _ (qr (qZ 0 args) i)
   rw [ht]
   by_cases hi:i < vs.length
   ·have:=g4 i
    simp only [Array.getD_eq_getD_getElem?,List.getElem?_toArray] at this ⊢
    rw [Array.getElem?_append_left (by simpa using hi)]
    simpa using this
   ·rw [List.getD_eq_getElem?_getD,List.getElem?_eq_none (by omega)]
    exact .junk _ _
 exact ⟨hρ0,hds,g'⟩
theorem qa {C:Cx} {f:FuncId} {fn:Func} {c:Code} {args:List AV} {H:List HB} {r:AV} {H' : List HB} (hf:C.P.funcs[f]? = some fn) (hb:fn.body = some c) (N:Nat) (hN:fn.ntmps = N) (hl:args.length ≤ N) (rs:Array ResultVar) (hrs:fn.results = rs)
  (nh:Nat) (hH:H.length = nh) (hnh:C.nh = nh) (h:Awp C N c (qaE C rs nh r H') ⟨qZ 0 args,zi 0 H,nh⟩):qI C.P f args H r H':=by
 subst hH
 intro B vs w hvs hBN g
 refine calls_of_wp hf hb ?_
 obtain ⟨hρ0,hds,g'⟩:=Zh (N:=N) hN hl hvs hBN g
 refine wp_mono (h { B with N:=N } _ w ⟨rfl,by rw [hnh];exact hρ0⟩ g') ?_
 intro e a' w' ⟨σ',q,g''⟩
 cases e with
 | normal =>
   obtain ⟨v,hr,hg⟩:=q fn { B with N:=N } a' w' hrs hρ0 hds.symm g''
   exact ⟨g''.1.trans hds.symm,v,hr,v,rfl,hg⟩
 | ret =>
   obtain ⟨v,hr,hg⟩:=q fn { B with N:=N } a' w' hrs hρ0 hds.symm g''
   exact ⟨g''.1.trans hds.symm,v,hr,v,rfl,hg⟩
 | exit _=>exact q.elim
 | goto _=>exact q.elim
 | panic _=>exact q.elim
 | outgrown=>exact q.elim
noncomputable def Jc (F:Still) (ρ:Places) (h:Nat → HB) (w:World):Still:=fun b =>
 match F b with
 | some o=>some o
 | none => @ite _ (∃ n c,(h n).isOwn = true ∧ ρ n = some (some (b,c))) (Classical.propDecidable _) w.heap[b]? none
theorem Jt (F:Still) (ρ:Places) (h:Nat → HB) (w:World):F.le (Jc F ρ h w):=fun b o hb=>by unfold Jc;rw [hb]
def Rz (h:Nat → HB) (x y:AV):Prop :=
 ∀ (F:Still) (ρ:Places) (w:World) (v:Value),(∀ n,OwnAt F ρ w n (h n)) → (∀ n b c,(h n).isOwn = true → ρ n = some (some (b,c)) → F b = none) → M F ρ v x → M (Jc F ρ h w) noPlaces v y
def x4 (h:Nat → HB) (xs ys:List AV):Prop:=xs.length = ys.length ∧ ∀ (i:Nat) x y,xs[i]? = some x → ys[i]? = some y → Rz h x y
section rz
variable {h:Nat → HB}
theorem je {x:AV} (hx:x.pure = true):Rz h x x:=fun F ρ w v _ _ hm=>(hm.moved noPlaces hx).mono (Jt F ρ h w) (Places.le_refl _)
theorem xq {rows:List (List AV)}:Rz h (.sl true rows) (.sl false rows):=fun F ρ w v _ _ hm=>by
 have hm:=(hm.moved noPlaces rfl).mono (Jt F ρ h w) (Places.le_refl _)
 cases hm with
 | sl0 _ a cap ex he hn=>exact .sl0 _ a cap false (fun e=>by cases e) hn
 | sl _ b off cap c e fr ex k rows hb hc he hs hk h=>exact .sl _ b off cap c e fr false k rows hb hc (fun e=>by cases e) hs hk h
theorem jl:x4 h [] []:=⟨rfl,fun i x y hx=>by cases i<;>cases hx⟩
theorem qT {x y:AV} {xs ys:List AV} (hx:Rz h x y) (hl:x4 h xs ys):x4 h (x :: xs) (y :: ys):=by
 refine ⟨by simp [hl.1],fun i a b ha hb=>?_⟩
 cases i with
 | zero=>simp at ha hb;subst ha;subst hb;exact hx
 | succ i=>exact hl.2 i a b (by simpa using ha) (by simpa using hb)
theorem yC {xs ys:List AV} (hl:x4 h xs ys):Rz h (.agg xs) (.agg ys):=fun F ρ w v ho hn hm=>by
 obtain ⟨vs,rfl,h1,h2⟩:=hm.agg_inv
 refine .agg _ vs ys (by rw [h1,hl.1]) fun i u y hu hy=>?_
 have hi:i < xs.length:=by rw [hl.1];exact (List.getElem?_eq_some_iff.1 hy).1
 have hx:xs[i]? = some xs[i]:=List.getElem?_eq_getElem hi
 exact hl.2 i _ y hx hy F ρ w u ho hn (h2 i u _ hu hx)
theorem xA {xs ys:List AV} (hl:x4 h xs ys):Rz h (.tup xs) (.tup ys):=fun F ρ w v ho hn hm=>by
 obtain ⟨vs,rfl,h1,h2⟩:=hm.tup_inv
 refine .tup _ vs ys (by rw [h1,hl.1]) fun i u y hu hy=>?_
 have hi:i < xs.length:=by rw [hl.1];exact (List.getElem?_eq_some_iff.1 hy).1
 have hx:xs[i]? = some xs[i]:=List.getElem?_eq_getElem hi
 exact hl.2 i _ y hx hy F ρ w u ho hn (h2 i u _ hu hx)
def ji (h:Nat → HB) (rows rows' : List (List AV)):Prop:=rows.length = rows'.length ∧ ∀ (i:Nat) row row',rows[i]? = some row → rows'[i]? = some row' → x4 h row row'
theorem vB {rows:List (List AV)} (hr : ∀ row,row ∈ rows → AV.pure.pureL row = true):ji h rows rows :=
 ⟨rfl,fun i row row' h1 h2=>by
  rw [h1] at h2;injection h2 with h2;subst h2
  exact ⟨rfl,fun j x y hx hy=>by rw [hx] at hy;injection hy with hy;subst hy;exact je (x2 (hr row (List.mem_of_getElem? h1)) hx)⟩⟩
theorem VM {F:Still} {ρ:Places} {w:World} {n b:Nat} {c:Nat × Nat} (hn:(h n).isOwn = true) (hρ:ρ n = some (some (b,c))) (hF:F b = none):Jc F ρ h w b = w.heap[b]?:=by
 unfold Jc
 rw [hF]
 simp only
 rw [if_pos ⟨n,c,hn,hρ⟩]
theorem qb1 {n off len:Nat} {ex:Bool} {k:Nat} {rows rows' : List (List AV)} (hn:h n = .own ex k rows) (hl:off + len ≤ rows.length) (hr:ji h ((rows.drop off).take len) rows'):Rz h (.os n off len) (.sl false rows'):=fun F ρ w v ho hnn hm=>by
 have hlen:rows'.length = len:=by rw [← hr.1];simp;omega
 have hon:=ho n
 rw [hn] at hon
 rcases hm.os_inv with ⟨h1,rfl,rfl,ad0,rfl⟩|⟨b,k',cap,a,hρ,rfl,hcap,ha⟩
 ·have:rows' = []:=List.eq_nil_of_length_eq_zero hlen
  subst this
  exact .sl0 _ ad0 0 false (fun e=>by cases e) (fun _=>rfl)
 ·obtain ⟨rfl,c,e,hb,hsz,hle,hex,hR⟩:=jP hon hρ
  by_cases h0:len = 0
  ·subst h0
   have:rows' = []:=List.eq_nil_of_length_eq_zero hlen
   subst this
   exact .sl0 _ (some a) _ false (fun e=>by cases e) (fun e=>by cases e)
  ·have ha':=ha (by omega)
   subst ha'
   have hmul:off * k' + len * k' ≤ cap * k':=by rw [← Nat.add_mul];exact Nat.mul_le_mul_right _ hcap
   have hget : ∀ (i:Nat) row',rows'[i]? = some row' → ∃ row,rows[off + i]? = some row ∧ x4 h row row':=by
    intro i row' hi
    have hil:i < len:=by rw [← hlen];exact (List.getElem?_eq_some_iff.1 hi).1
    have h1:((rows.drop off).take len)[i]? = some (rows[off + i]'(by omega)):=by rw [getElem?_drop_take _ _ _ _ hil,List.getElem?_eq_getElem (by omega)]
    exact ⟨_,List.getElem?_eq_getElem (by omega),hr.2 i _ _ h1 hi⟩
   have:=M.sl (F:=Jc F ρ h w) noPlaces b (off * k') (cap - off) c e (0,0) false k' rows' (by rw [VM (by rw [hn];rfl) hρ (hnn n b _ (by rw [hn];rfl) hρ)];exact hb) (by rw [hlen];omega) (fun e=>by cases e)
    (by rw [hlen,hsz];exact hmul) (fun row' hrow'=>by
     obtain ⟨i,hi⟩:=List.mem_iff_getElem?.1 hrow'
     obtain ⟨row,h1,h2⟩:=hget i row' hi
     rw [← h2.1];exact hR.1 row (List.mem_of_getElem? h1))
    (fun i j row' y u hi hj hu=>by
     obtain ⟨row,h1,h2⟩:=hget i row' hi
     have hj' : j < row.length:=by rw [h2.1];exact (List.getElem?_eq_some_iff.1 hj).1
     have hx:row[j]? = some row[j]:=List.getElem?_eq_getElem hj'
     refine h2.2 j _ y hx hj F ρ w u ho hnn (hR.2 (off + i) j row _ u h1 hx ?_)
     rw [Nat.add_mul];exact hu)
   rw [hlen] at this
   exact this
theorem W6 {n i j:Nat} {ex:Bool} {k:Nat} {rows rows' : List (List AV)} (hn:h n = .own ex k rows) (hi:i < rows.length) (hr:ji h rows rows'):Rz h (.op n i j) (.fp rows' i j):=fun F ρ w v ho hnn hm=>by
 have hon:=ho n
 rw [hn] at hon
 obtain ⟨b,k',cap,hρ,rfl⟩:=hm.op_inv
 obtain ⟨rfl,c,e,hb,hsz,hle,hex,hR⟩:=jP hon hρ
 have hget : ∀ (i:Nat) row',rows'[i]? = some row' → ∃ row,rows[i]? = some row ∧ x4 h row row':=by
  intro i row' hi
  have hil:i < rows.length:=by rw [hr.1];exact (List.getElem?_eq_some_iff.1 hi).1
  exact ⟨_,List.getElem?_eq_getElem hil,hr.2 i _ _ (List.getElem?_eq_getElem hil) hi⟩
 have:=M.fp (F:=Jc F ρ h w) noPlaces b 0 c e (0,0) k' rows' i j (by rw [VM (by rw [hn];rfl) hρ (hnn n b _ (by rw [hn];rfl) hρ)];exact hb) (by rw [← hr.1];exact hi)
  (by rw [← hr.1,hsz,Nat.zero_add];exact Nat.mul_le_mul_right _ hle) (fun row' hrow'=>by
   obtain ⟨i,hi⟩:=List.mem_iff_getElem?.1 hrow'
   obtain ⟨row,h1,h2⟩:=hget i row' hi
   rw [← h2.1];exact hR.1 row (List.mem_of_getElem? h1))
  (fun i j row' y u hi hj hu=>by
   obtain ⟨row,h1,h2⟩:=hget i row' hi
   have hj' : j < row.length:=by rw [h2.1];exact (List.getElem?_eq_some_iff.1 hj).1
   have hx:row[j]? = some row[j]:=List.getElem?_eq_getElem hj'
   exact h2.2 j _ y hx hj F ρ w u ho hnn (hR.2 i j row _ u h1 hx (by rw [Nat.zero_add] at hu;exact hu)))
 rw [Nat.zero_add] at this
 exact this
theorem yi {fn:Fn} {xs ys xs' ys' : List AV} (h1:x4 h xs xs') (h2:x4 h ys ys'):Rz h (.clo fn xs ys) (.clo fn xs' ys'):=fun F ρ w v ho hn hm=>by
 cases hm with
 | clo _ fn vs us xs ys hl hm' a1 a2 =>
   refine .clo _ fn vs us xs' ys' (by rw [hl,h1.1]) (by rw [hm',h2.1]) (fun i u y hu hy=>?_) (fun i u y hu hy=>?_)
   ·have hi:i < xs.length:=by rw [h1.1];exact (List.getElem?_eq_some_iff.1 hy).1
    have hx:xs[i]? = some xs[i]:=List.getElem?_eq_getElem hi
    exact h1.2 i _ y hx hy F ρ w u ho hn (a1 i u _ hu hx)
   ·have hi:i < ys.length:=by rw [h2.1];exact (List.getElem?_eq_some_iff.1 hy).1
    have hx:ys[i]? = some ys[i]:=List.getElem?_eq_getElem hi
    exact h2.2 i _ y hx hy F ρ w u ho hn (a2 i u _ hu hx)
end rz
end Go.Ab
set_option linter.unusedSimpArgs false
set_option linter.unusedVariables false
namespace Go.Ab
open Go.RowKit
def ResOk (C:Cx) (σ:St):List ResultVar → List AV → Prop
 | [],[]=>True
 | .tmp i :: rs,x :: xs=>qr σ.ts i = x ∧ ResOk C σ rs xs
 | .cell a T :: rs,x :: xs=>(∃ n i j ex k rows r row,qr σ.ts a = .op n i j ∧ qB σ.hs n = .own ex k rows ∧ qG C.tab T = some r ∧ rows[i]? = some row ∧ Wn r row j = some x) ∧ ResOk C σ rs xs
 | _,_=>False
theorem qP {C:Cx} {σ:St}:ResOk C σ [] []:=trivial
theorem qQ {C:Cx} {σ:St} {i:Nat} {rs:List ResultVar} {x:AV} {xs:List AV} (hx:qr σ.ts i = x) (h:ResOk C σ rs xs):ResOk C σ (.tmp i :: rs) (x :: xs):=⟨hx,h⟩
theorem qJ {C:Cx} {σ:St} {a T n i j:Nat} {ex:Bool} {k:Nat} {rows:List (List AV)} {r:TRec} {row:List AV} {rs:List ResultVar} {x:AV} {xs:List AV} (h1:qr σ.ts a = .op n i j) (h2:qB σ.hs n = .own ex k rows)
  (h3:qG C.tab T = some r) (h4:rows[i]? = some row) (h5:Wn r row j = some x) (h:ResOk C σ rs xs):ResOk C σ (.cell a T :: rs) (x :: xs):=⟨⟨n,i,j,ex,k,rows,r,row,h1,h2,h3,h4,h5⟩,h⟩
theorem VW {α β:Type} {P:Program} {w:World} (f:α → Sem β) (Q:α → β → Prop) : ∀ (l:List α),(∀ x,x ∈ l → ∃ v,(f x).run P w = .ok v w ∧ Q x v) → ∃ vs:List β,(l.mapM f).run P w = .ok vs w ∧ vs.length = l.length ∧ ∀ (i:Nat) x v,l[i]? = some x → vs[i]? = some v → Q x v
 | [],_=>⟨[],by simp,rfl,fun i x v h=>by cases i<;>cases h⟩
 | x :: l,h=>by
   obtain ⟨v,hv,hq⟩:=h x (List.mem_cons_self ..)
   obtain ⟨vs,hvs,hl,hqs⟩:=VW f Q l fun y hy=>h y (List.mem_cons_of_mem _ hy)
   refine ⟨v :: vs,by simp [List.mapM_cons,hv,hvs],by simp [hl],fun i y u hy hu=>?_⟩
   cases i with
   | zero=>simp at hy hu;subst hy;subst hu;exact hq
   | succ i=>exact hqs i y u (by simpa using hy) (by simpa using hu)
theorem ResOk.get {C:Cx} {σ:St} : ∀ {rs:List ResultVar} {xs:List AV},ResOk C σ rs xs → rs.length = xs.length ∧ ∀ (i:Nat) rv x,rs[i]? = some rv → xs[i]? = some x → ResOk C σ [rv] [x]
 | [],[],_=>⟨rfl,fun i rv x h=>by cases i<;>cases h⟩
 | .tmp i :: rs,x :: xs,h=>by
   obtain ⟨hl,hg⟩:=ResOk.get h.2
   refine ⟨by simp [hl],fun j rv y hr hy=>?_⟩
   cases j with
   | zero=>simp at hr hy;subst hr;subst hy;exact ⟨h.1,trivial⟩
   | succ j=>exact hg j rv y (by simpa using hr) (by simpa using hy)
 | .cell a T :: rs,x :: xs,h=>by
   obtain ⟨hl,hg⟩:=ResOk.get h.2
   refine ⟨by simp [hl],fun j rv y hr hy=>?_⟩
   cases j with
   | zero=>simp at hr hy;subst hr;subst hy;exact ⟨h.1,trivial⟩
   | succ j=>exact hg j rv y (by simpa using hr) (by simpa using hy)
 | [],_ :: _,h=>h.elim
 | .tmp _ :: _,[],h=>h.elim
 | .cell _ _ :: _,[],h=>h.elim
def jx:List AV → AV
 | [x]=>x
 | xs => .tup xs
theorem Ja {C:Cx} {σ:St} {B:Base} {A:Nat → Prop} {F:Still} {ρ:Places} {a:Act} {w:World} {fn:Func} {rs:List ResultVar} {xs:List AV} (hrs:fn.results = rs.toArray) (hp:Hp B A (qB σ.hs) F ρ w) (ht : ∀ i,M F ρ (a.tmps.getD i undef) (qr σ.ts i))
  (hr:ResOk C σ rs xs) : ∃ v,(results fn a.tmps).run C.P w = .ok v w ∧ M F ρ v (jx xs):=by
 obtain ⟨hl,hg⟩:=hr.get
 obtain ⟨vs,h1,h2,h3⟩:=VW (P:=C.P) (w:=w) (fun rv:ResultVar=>match rv with
  | .tmp t=>(pure (a.tmps.getD t undef):Sem Value)
  | .cell ad t=>do loadVar t (← asAddr (a.tmps.getD ad undef))) (fun rv v => ∀ x,ResOk C σ [rv] [x] → M F ρ v x) rs (by
    intro rv hrv
    obtain ⟨i,hi⟩:=List.mem_iff_getElem?.1 hrv
    have hix:i < xs.length:=by rw [← hl];exact (List.getElem?_eq_some_iff.1 hi).1
    have h0:=hg i rv _ hi (List.getElem?_eq_getElem hix)
    cases rv with
    | tmp t=>exact ⟨a.tmps.getD t undef,rfl,fun x hx=>hx.1 ▸ ht t⟩
    | cell ad T =>
      obtain ⟨⟨n,i',j,ex,k,rows,r,row,e1,e2,e3,e4,e5⟩,_⟩:=h0
      have hm:=ht ad
      rw [e1] at hm
      obtain ⟨b,k',cap,hρ,hv⟩:=hm.op_inv
      have ho:=hp.own n
      rw [e2] at ho
      obtain ⟨rfl,c,e,hb,hsz,hle,_,hR⟩:=jP ho hρ
      have hi' : i' < rows.length:=(List.getElem?_eq_some_iff.1 e4).1
      have hk:row.length = k':=hR.1 row (List.mem_of_getElem? e4)
      obtain ⟨v,hrun,hm'⟩:=Qp (F:=F) (ρ:=ρ) hb (C.ok T r e3) (base:=i' * k') (j:=j) (row:=row) (by rw [hk,hsz];exact vH hi' hle) (fun j x v hj hc=>hR.2 i' j row x v e4 hj hc) e5
      refine ⟨v,by simp only [hv,asAddr,Sem.run_bind,Sem.run_pure,Result.andThen_ok,hrun],?_⟩
      intro x ⟨⟨n2,i2,j2,ex2,k2,rows2,r2,row2,f1,f2,f3,f4,f5⟩,_⟩
      rw [e1] at f1;injection f1 with g1 g2 g3
      subst g1;subst g2;subst g3
      rw [e2] at f2;injection f2 with g1 g2 g3
      subst g3
      rw [e3] at f3;injection f3 with g1;subst g1
      rw [e4] at f4;injection f4 with g1;subst g1
      rw [e5] at f5;injection f5 with g1;subst g1
      exact hm')
 have hm : ∀ (i:Nat) v x,vs[i]? = some v → xs[i]? = some x → M F ρ v x:=by
  intro i v x hv hx
  have hir:i < rs.length:=by rw [hl];exact (List.getElem?_eq_some_iff.1 hx).1
  have hr:=List.getElem?_eq_getElem hir
  exact h3 i _ v hr hv x (hg i _ x hr hx)
 have hres:(results fn a.tmps).run C.P w = .ok (if h:vs.toArray.size = 1 then vs.toArray[0] else .tuple vs.toArray) w:=by
  unfold results
  rw [Sem.run_bind,hrs,Array.mapM_eq_mapM_toList,Sem.run_map]
  refine (congrArg (fun r:Result (List Value)=>((r.andThen fun a w'=>Result.ok a.toArray w').andThen fun vs w'=>Sem.run C.P (pure (if h:vs.size = 1 then vs[0] else Value.tuple vs)) w')) h1).trans ?_
  rfl
 refine ⟨_,hres,?_⟩
 have hvx:vs.length = xs.length:=by rw [h2,hl]
 match xs,hvx,hm with
 | [x],hvx,hm =>
   match vs,hvx,hm with
   | [v],_,hm=>exact hm 0 v x rfl rfl
 | [],hvx,hm =>
   have:vs = []:=List.eq_nil_of_length_eq_zero hvx
   subst this
   exact .tup _ [] [] rfl (fun i v x h=>by cases i<;>cases h)
 | x :: y :: l,hvx,hm =>
   rw [dif_neg (by simp at hvx ⊢;omega)]
   exact .tup _ vs _ hvx hm
theorem w6 {C:Cx} {rs:List ResultVar} {nh:Nat} {σ:St} {xs:List AV} {r:AV} (hr:ResOk C σ rs xs) (hz:Rz (qB σ.hs) (jx xs) r):Fin C rs.toArray nh r [] σ:=by
 intro fn B a w hrs hρ0 hds ⟨g1,g2,F,ρ,hp,g4⟩
 obtain ⟨v,hrun,hm⟩:=Ja hrs hp g4 hr
 refine ⟨v,hrun,hds.symm,rfl,Jc F ρ (qB σ.hs) w,ρ,?_,fun i=>?_⟩
 ·refine { kept:=⟨hp.kept.os,hp.kept.tape,hp.kept.output,hp.kept.size,hp.kept.block⟩,agree := ?_,grow:=fun b o hb=>Jt F ρ _ w b o (hp.grow b o hb),fresh := ?_,names:=hp.names,dom:=fun _ _=>trivial,own:=fun n=>?_,new := ?_,sep := ?_ }
  ·intro b o hb
   unfold Jc at hb
   cases hF:F b with
   | some o'=>rw [hF] at hb;simp only at hb;rw [← hb];exact hp.agree b o' hF
   | none =>
     rw [hF] at hb
     simp only at hb
     split at hb
     ·exact hb
     ·cases hb
  ·intro b hb
   unfold Jc at hb
   cases hF:F b with
   | some o'=>exact hp.fresh b (by rw [hF];simp)
   | none =>
     rw [hF] at hb
     simp only at hb
     split at hb
     ·rename_i hex
      obtain ⟨n,c,hn,hρ⟩:=hex
      exact .inr (hp.new n b c hn hρ).2
     ·exact absurd rfl hb
  ·have:(List.getD ([]:List HB) n .dead) = .dead:=by simp
   rw [this];trivial
  ·intro n b c hn
   simp [HB.isOwn] at hn
  ·intro n m b c c' _ hn
   simp [HB.isOwn] at hn
 ·by_cases hi:i = 0
  ·subst hi
   exact ((hz F ρ w v hp.own (fun n b c h1 h2=>(hp.new n b c h1 h2).1) hm).mono (Still.le_refl _) (kJ ρ))
  ·unfold one;rw [if_neg hi];exact .junk _ _
def Xt:AV → Bool
 | .v _=>true
 | .tup cs=>cs.all fun x=>match x with | .v _=>true|_=>false
 | _=>false
theorem Zm {F G:Still} {ρ σ:Places} {v:Value} {x:AV} (hm:M F ρ v x) (hx:Xt x = true):M G σ v x:=by
 cases hm with
 | v _ _ h=>exact .v _ _ h
 | tup _ vs xs hl h =>
   refine .tup _ vs xs hl fun i u y hu hy=>?_
   have:=List.all_eq_true.1 (by simpa [Xt] using hx) y (List.mem_of_getElem? hy)
   have hm:=h i u y hu hy
   cases y<;>simp at this
   obtain ⟨e,hs⟩:=hm.v_inv
   subst e
   exact .v _ _ hs
 | _=>simp [Xt] at hx
def zq (rh:List Nat) (h:Nat → HB):Nat → HB:=fun n=>if n ∈ rh then h n else .dead
theorem Xk {P:Program} {f:FuncId} {fn:Func} (hf:P.funcs[f]? = some fn) (hb:fn.body.isNone = false) (hn:(fn.name == "runtime.NumGoroutine") = false) (args:Array Value) (w:World):(callFunc f args).run P w = .ok (.enter f args) w:=by
 unfold callFunc
 simp only [Sem.run_bind,program,Sem.run,hf,hn,hb,Bool.false_eq_true,if_false,Sem.run_pure,Result.andThen]
structure IsFn (P:Program) (f:FuncId):Prop where
 ex : ∃ fn,P.funcs[f]? = some fn ∧ fn.body.isNone = false ∧ (fn.name == "runtime.NumGoroutine") = false
theorem Wr {F:Still} {ρ:Places} {t:Nat → AV} {a:Act} {rt:List Nat} (hs : ∀ j,j ∈ rt → M F ρ (a.tmps.getD j undef) (t j)) : ∀ (l:List Operand),(∀ j,j ∈ l.flatMap jC → j ∈ rt) → ∀ (i:Nat) v x,(l.map a.eval)[i]? = some v → (l.map (evA t))[i]? = some x → M F ρ v x:=by
 intro l hin i v x hv hx
 rw [List.getElem?_map] at hv hx
 cases hl:l[i]? with
 | none=>simp [hl] at hv
 | some o =>
   simp only [hl,Option.map_some,Option.some.injEq] at hv hx
   subst hv;subst hx
   exact qi hs fun j hj=>hin j (List.mem_flatMap.2 ⟨o,List.mem_of_getElem? hl,hj⟩)
def jf (P:Program) (o:Oper) (t:Nat → AV) (rt:List Nat) (f:FuncId) (xs:List AV):Prop :=
 ∀ (F:Still) (ρ:Places) (a:Act) (w:World),(∀ j,j ∈ rt → M F ρ (a.tmps.getD j undef) (t j)) →
   ∃ vs:List Value,(execOp a.eval o).run P w = .ok (.enter f vs.toArray) w ∧ vs.length = xs.length ∧ ∀ (i:Nat) v x,vs[i]? = some v → xs[i]? = some x → M F ρ v x
section calls
variable {C:Cx} {N d:Nat} {ty:TypeId} {pos:String} {af:Array Edge} {gd:Option (Nat × Bool)} {t:Nat → AV} {h:Nat → HB}
theorem xF (f:FuncId) (hf:IsFn C.P f) (c:Operand) (args:List Operand) (tys:Array TypeId) (first cap:List AV) (hc:evA t c = .clo (.func f) first cap) :
  jf C.P ⟨some d,.call ⟨.value c,args.toArray,tys⟩,ty,pos,af,gd⟩ t (jC c ++ args.flatMap jC) f (first ++ args.map (evA t) ++ cap):=by
 intro F ρ a w hs
 have h1:=qi (x:=c) hs (fun j hj=>List.mem_append_left _ hj)
 rw [hc] at h1
 generalize hac:a.eval c = ac at h1
 cases h1 with
 | clo _ fn vs us xs ys hl hm a1 a2 =>
   refine ⟨vs ++ args.map a.eval ++ us,?_,by simp [hl,hm],?_⟩
   ·obtain ⟨fn',hf1,hf2,hf3⟩:=hf.ex
    simp only [execOp,resolve,hac,Deferred.ofValue,Sem.run_bind,Sem.run_pure,Result.andThen_ok,invoke]
    rw [show (vs.toArray ++ args.toArray.map a.eval ++ us.toArray) = (vs ++ args.map a.eval ++ us).toArray from by simp]
    exact Xk hf1 hf2 hf3 _ w
   ·intro i v x hv hx
    rw [List.getElem?_append] at hv hx
    have e1:(vs ++ args.map a.eval).length = (first ++ args.map (evA t)).length:=by simp [hl]
    rw [e1] at hv
    split at hv
    ·rename_i hi
     rw [if_pos hi] at hx
     rw [List.getElem?_append] at hv hx
     rw [hl] at hv
     split at hv
     ·rename_i hi2
      rw [if_pos hi2] at hx
      exact a1 i v x hv hx
     ·rename_i hi2
      rw [if_neg hi2] at hx
      exact Wr hs args (fun j hj=>List.mem_append_right _ hj) _ v x hv hx
    ·rename_i hi
     rw [if_neg hi] at hx
     exact a2 _ v x hv hx
theorem Yv {P:Program} {o:Oper} {a:Act} {w w1:World} {f:FuncId} {vs:Array Value} {K:Act → World → Prop} {Q:Exit → Act → World → Prop} (he:(execOp a.eval o).run P w = .ok (.enter f vs) w1) {R:Ending → World → Prop} (hc:Calls P f vs w1 R)
  (hk : ∀ e w',R e w' → ∃ v,e = .returned v ∧ K (a.put o.dst v) w'):o.wp P a w K Q:=by
 unfold Oper.wp
 rw [he,Oper.upon_enter]
 refine hc.mono fun e w' hr=>?_
 obtain ⟨v,rfl,hk'⟩:=hk e w' hr
 exact hk'
theorem wV {o:Oper} {f:FuncId} {xs ys:List AV} {r:AV} (rt rh:List Nat) (hd:o.dst = some d) (hN:d < N) (he:jf C.P o t rt f xs) (hz:x4 (zq rh h) xs ys) (hc:qI C.P f ys [] r []) (hfl:Xt r = true) :
  qD C.P N o t h ⟨rt,rh,some d,r,[],[]⟩:=by
 intro B A t' h' a w Q K hBN g hrt hrh _ hK
 obtain ⟨g1,g2,F,ρ,hp,g4⟩:=g
 obtain ⟨vs,hrun,hl,hm⟩:=he F ρ a w (fun j hj=>(hrt j hj) ▸ g4 j)
 have heq:zq rh h' = zq rh h:=by
  funext n;unfold zq;split
  ·rename_i hn;exact hrh n hn
  ·rfl
 have hown : ∀ n,OwnAt F ρ w n (zq rh h n):=fun n=>by
  rw [← heq];unfold zq;split
  ·exact hp.own n
  ·trivial
 have hnone : ∀ n b c,(zq rh h n).isOwn = true → ρ n = some (some (b,c)) → F b = none:=fun n b c hn hρ=>by
  rw [← heq] at hn;unfold zq at hn;split at hn
  ·exact (hp.new n b c hn hρ).1
  ·cases hn
 let F1:=Jc F ρ (zq rh h) w
 let B' : Base := { w0:=w,F0:=F1,ρ0:=noPlaces,O0:=fun _=>False,N:=vs.length,tab:=fun b p h=>(B.tab b p h).imp fun cs h=>h.imp fun e h=>h.imp fun fr h=>⟨h.1,Jt F ρ _ w b _ (hp.grow b _ h.2)⟩ }
 have hag : ∀ b o,F1 b = some o → w.heap[b]? = some o:=by
  intro b o hb
  simp only [F1,Jc] at hb
  cases hF:F b with
  | some o'=>rw [hF] at hb;simp only at hb;rw [← hb];exact hp.agree b o' hF
  | none =>
    rw [hF] at hb
    simp only at hb
    split at hb
    ·exact hb
    ·cases hb
 have hGa:Ga B' (· < ([]:List HB).length) (fun i=>ys.getD i .junk) (fun n=>([]:List HB).getD n .dead) ⟨vs.toArray,[]⟩ w:=by
  refine ⟨rfl,by simp [B'],F1,noPlaces,?_,fun i=>?_⟩
  ·exact { kept:=⟨rfl,rfl,rfl,Nat.le_refl _,fun _ _ _=>rfl⟩,agree:=hag,grow:=Still.le_refl _,fresh:=fun b hb => .inl hb,names:=Places.le_refl _,dom:=fun n hn=>absurd rfl hn,own:=fun n=>by simp [OwnAt],new:=fun n b c hn=>by simp [HB.isOwn] at hn,sep:=fun n m b c c' _ hn=>by simp [HB.isOwn] at hn }
  ·show M F1 noPlaces _ (ys.getD i .junk)
   cases hy:ys[i]? with
   | none=>rw [List.getD_eq_getElem?_getD,hy];exact .junk _ _
   | some y =>
     rw [List.getD_eq_getElem?_getD,hy]
     have hi:i < xs.length:=by rw [hz.1];exact (List.getElem?_eq_some_iff.1 hy).1
     have hx:xs[i]? = some xs[i]:=List.getElem?_eq_getElem hi
     have hv:vs[i]? = some (vs[i]'(by omega)):=List.getElem?_eq_getElem (by omega)
     simp only [Array.getD_eq_getD_getElem?,List.getElem?_toArray,hv,Option.getD_some]
     exact hz.2 i _ y hx hy F ρ w _ hown hnone (hm i _ _ hv hx)
 refine Yv hrun (hc B' vs w (by rw [hl,hz.1]) rfl hGa) ?_
 intro e w' ⟨v,hev,_,_,F',ρ',hp',hm'⟩
 refine ⟨v,hev,hK _ _ ⟨?_,by rw [xS];exact g2,F,ρ,?_,fun i=>?_⟩⟩
 ·simpa [Act.put,hd] using g1
 ·have hblk : ∀ b,b < w.heap.size → w'.heap[b]? = w.heap[b]?:=fun b hb=>hp'.kept.block b hb (fun h=>h)
  refine { kept:=⟨hp'.kept.os.trans hp.kept.os,hp'.kept.tape.trans hp.kept.tape,hp'.kept.output.trans hp.kept.output,Nat.le_trans hp.kept.size hp'.kept.size,fun b hb ho=>?_⟩,agree:=fun b o hb=>?_,grow:=hp.grow,fresh:=hp.fresh,names:=hp.names,dom:=fun n hn => .inl (hp.dom n hn),own:=fun n=>?_,new := ?_,sep := ?_ }
  ·rw [hblk b (Nat.lt_of_lt_of_le hb hp.kept.size)];exact hp.kept.block b hb ho
  ·rw [hblk b (Array.getElem?_eq_some_iff.1 (hp.agree b o hb)).1];exact hp.agree b o hb
  ·have h1:=hp.own n
   show OwnAt F ρ w' n (h' n)
   cases hh:h' n with
   | dead=>trivial
   | fz rows=>rw [hh] at h1;exact h1
   | mp l =>
     rw [hh] at h1
     obtain ⟨b,es,clock,h1,h2,h3⟩:=h1
     exact ⟨b,es,clock,h1,by rw [hblk b (Array.getElem?_eq_some_iff.1 h2).1];exact h2,h3⟩
   | own ex k rows =>
     rw [hh] at h1
     rcases h1 with h1|⟨b,cap,c,e,h1,h2,h3,h4,h5,h6⟩
     ·exact .inl h1
     ·exact .inr ⟨b,cap,c,e,h1,by rw [hblk b (Array.getElem?_eq_some_iff.1 h2).1];exact h2,h3,h4,h5,h6⟩
  ·exact hp.new
  ·exact hp.sep
 ·rw [hd,vA _ _ _ _ (by omega)]
  unfold Eff.t Eff.wT
  by_cases hi:d = i
  ·subst hi
   have h0:=hm' 0
   simp only [one,if_true] at h0
   have:M F ρ v r:=Zm (by simpa using h0) hfl
   simpa using this
  ·simpa [hi] using g4 i
end calls
end Go.Ab
namespace Go.Ab
def K0 (P:Program):List (Nat × TRec) → Prop
 | []=>True
 | (T,r) :: l=>kw P T = some r ∧ K0 P l
theorem Yr {P:Program} : ∀ {l:List (Nat × TRec)},K0 P l → ∀ T r,qG l T = some r → kw P T = some r
 | [],_,T,r,h=>by cases h
 | (U,s) :: l,hl,T,r,h=>by
   unfold qG at h
   split at h
   ·rename_i e;injection h with h;exact e ▸ h ▸ hl.1
   ·exact Yr hl.2 T r h
end Go.Ab
set_option linter.unusedSimpArgs false
set_option linter.unusedVariables false
namespace Go.Ab
def Maps (L:List (Nat × Nat)) (nh n n' : Nat):Prop:=(n < nh ∧ n' = n) ∨ (n,n') ∈ L
def jQ (L:List (Nat × Nat)) (nh:Nat) (x y:AV):Prop :=
 ∀ (F:Still) (ρ ρ' : Places) (v:Value),(∀ n n',Maps L nh n n' → ∀ c,ρ n = some c → ρ' n' = some c) → M F ρ v x → M F ρ' v y
def jq (L:List (Nat × Nat)) (nh:Nat) (xs ys:List AV):Prop:=xs.length = ys.length ∧ ∀ (i:Nat) x y,xs[i]? = some x → ys[i]? = some y → jQ L nh x y
def vq (L:List (Nat × Nat)) (nh:Nat) (xs ys:List (List AV)):Prop:=xs.length = ys.length ∧ ∀ (i:Nat) x y,xs[i]? = some x → ys[i]? = some y → jq L nh x y
section
variable {L:List (Nat × Nat)} {nh:Nat}
theorem W5 {x:AV}:jQ L nh x .junk:=fun F ρ ρ' v _ _ => .junk _ v
theorem ql {x:AV} (hx:x.pure = true):jQ L nh x x:=fun F ρ ρ' v _ hm=>hm.moved ρ' hx
theorem qO {n n' off len:Nat} (hn:Maps L nh n n'):jQ L nh (.os n off len) (.os n' off len):=fun F ρ ρ' v h hm=>by
 cases hm with
 | os _ n b k cap off len a hρ hl ha=>exact .os _ n' b k cap off len a (h n n' hn _ hρ) hl ha
 | osn _ n a hρ=>exact .osn _ n' a (h n n' hn _ hρ)
theorem qU {n n' i j:Nat} (hn:Maps L nh n n'):jQ L nh (.op n i j) (.op n' i j):=fun F ρ ρ' v h hm=>by
 cases hm with|op _ n b k cap i j hρ=>exact .op _ n' b k cap i j (h n n' hn _ hρ)
theorem qm:jq L nh [] []:=⟨rfl,fun i x y hx=>by cases i<;>cases hx⟩
theorem qf {x y:AV} {xs ys:List AV} (hx:jQ L nh x y) (hl:jq L nh xs ys):jq L nh (x :: xs) (y :: ys):=by
 refine ⟨by simp [hl.1],fun i a b ha hb=>?_⟩
 cases i with
 | zero=>simp at ha hb;subst ha;subst hb;exact hx
 | succ i=>exact hl.2 i a b (by simpa using ha) (by simpa using hb)
theorem KQ {xs:List AV} (hx:AV.pure.pureL xs = true):jq L nh xs xs :=
 ⟨rfl,fun i x y h1 h2=>by rw [h1] at h2;injection h2 with h2;subst h2;exact ql (x2 hx h1)⟩
theorem vM {rows:List (List AV)} (hr : ∀ row,row ∈ rows → AV.pure.pureL row = true):vq L nh rows rows :=
 ⟨rfl,fun i x y h1 h2=>by rw [h1] at h2;injection h2 with h2;subst h2;exact KQ (hr x (List.mem_of_getElem? h1))⟩
theorem VR {α:Type} {f:α → List AV} {l:List α} (hf : ∀ a,AV.pure.pureL (f a) = true):vq L nh (l.map f) (l.map f) :=
 vM fun row hr=>by obtain ⟨a,_,rfl⟩:=List.mem_map.1 hr;exact hf a
theorem x3:vq L nh [] []:=⟨rfl,fun i x y hx=>by cases i<;>cases hx⟩
theorem yU {x y:List AV} {xs ys:List (List AV)} (hx:jq L nh x y) (hl:vq L nh xs ys):vq L nh (x :: xs) (y :: ys):=by
 refine ⟨by simp [hl.1],fun i a b ha hb=>?_⟩
 cases i with
 | zero=>simp at ha hb;subst ha;subst hb;exact hx
 | succ i=>exact hl.2 i a b (by simpa using ha) (by simpa using hb)
end
def qba (L:List (Nat × Nat)) (nh:Nat):MB → MB → Prop
 | .map l,.map l' => ∃ l2,l.Perm l2 ∧ l2.length = l'.length ∧ ∀ (i:Nat) x y,l2[i]? = some x → l'[i]? = some y → x.1 = y.1 ∧ jQ L nh x.2 y.2
 | .sit s p,.sit s' p'=>s = s' ∧ p = p'
 | .typ e k rows,.typ e' k' rows'=>e = e' ∧ k = k' ∧ vq L nh rows rows'
 | _,_=>False
def yQ (L:List (Nat × Nat)) (nh:Nat):HB → HB → Prop
 | .own ex k rows,.own ex' k' rows'=>(ex' = true → ex = true) ∧ k = k' ∧ vq L nh rows rows'
 | .fz rows,.fz rows'=>rows = rows'
 | .mp l,.mp l'=>qba L nh l l'
 | _,.dead=>True
 | _,_=>False
theorem WU {α β:Type} {R:α → β → Prop} {l0 l:List α} (h:l0.Perm l) : ∀ {l2:List β},l.length = l2.length → (∀ (i:Nat) x y,l[i]? = some x → l2[i]? = some y → R x y) → ∃ l3:List β,l3.Perm l2 ∧ l0.length = l3.length ∧ ∀ (i:Nat) x y,l0[i]? = some x → l3[i]? = some y → R x y:=by
 induction h with
 | nil=>intro l2 hl hr;exact ⟨l2,.refl _,hl,hr⟩
 | cons a _ ih =>
   intro l2 hl hr
   cases l2 with
   | nil=>simp at hl
   | cons b l2 =>
     obtain ⟨l3,h1,h2,h3⟩:=ih (l2:=l2) (by simpa using hl) (fun i x y hx hy=>hr (i + 1) x y (by simpa using hx) (by simpa using hy))
     refine ⟨b :: l3,h1.cons b,by simp [h2],fun i x y hx hy=>?_⟩
     cases i with
     | zero=>exact hr 0 x y (by simpa using hx) (by simpa using hy)
     | succ i=>exact h3 i x y (by simpa using hx) (by simpa using hy)
 | swap a b l =>
   intro l2 hl hr
   match l2,hl,hr with
   | c :: d :: l2,hl,hr =>
     refine ⟨d :: c :: l2,.swap _ _ _,by simpa using hl,fun i x y hx hy=>?_⟩
     match i with
     | 0=>exact hr 1 x y (by simpa using hx) (by simpa using hy)
     | 1=>exact hr 0 x y (by simpa using hx) (by simpa using hy)
     | i + 2=>exact hr (i + 2) x y (by simpa using hx) (by simpa using hy)
   | [_],hl,_=>simp at hl
   | [],hl,_=>simp at hl
 | trans _ _ ih1 ih2 =>
   intro l2 hl hr
   obtain ⟨l3,h1,h2,h3⟩:=ih2 hl hr
   obtain ⟨l4,h4,h5,h6⟩:=ih1 h2 h3
   exact ⟨l4,h4.trans h1,h5,h6⟩
theorem qaQ {l l' : List (List UInt8 × AV)} (hl:l.length = l'.length) (hr : ∀ (i:Nat) x y,l[i]? = some x → l'[i]? = some y → x.1 = y.1):l.map (·.1) = l'.map (·.1):=by
 apply List.ext_getElem?
 intro i
 rw [List.getElem?_map,List.getElem?_map]
 by_cases hi:i < l.length
 ·have h1:=List.getElem?_eq_getElem hi
  have h2:=List.getElem?_eq_getElem (l:=l') (show i < l'.length by omega)
  rw [h1,h2]
  exact congrArg some (hr i _ _ h1 h2)
 ·rw [List.getElem?_eq_none (by omega),List.getElem?_eq_none (by omega)]
theorem MapAt.ren {F:Still} {ρ ρ' : Places} {L:List (Nat × Nat)} {nh:Nat} {es:Array MapEntry} {clock:Nat} {l l' : List (List UInt8 × AV)} (hsub : ∀ n n',Maps L nh n n' → ∀ c,ρ n = some c → ρ' n' = some c) (h:MapAt F ρ es clock l) (hl:l.length = l'.length)
  (hr : ∀ (i:Nat) x y,l[i]? = some x → l'[i]? = some y → x.1 = y.1 ∧ jQ L nh x.2 y.2):MapAt F ρ' es clock l':=by
 obtain ⟨l0,hp,h⟩:=h
 obtain ⟨l3,hp3,hl3,hr3⟩:=WU (R:=fun x y:List UInt8 × AV=>x.1 = y.1 ∧ jQ L nh x.2 y.2) hp hl hr
 refine ⟨l3,hp3,h.len.trans hl3,?_,h.stamp,fun i e y he hy=>?_⟩
 ·rw [← qaQ hl3 fun i x y hx hy=>(hr3 i x y hx hy).1];exact h.nodup
 ·have hi:i < l0.length:=by rw [hl3];exact (List.getElem?_eq_some_iff.1 hy).1
  have hx:=List.getElem?_eq_getElem hi
  obtain ⟨h1,h2⟩:=h.ents i e _ he hx
  obtain ⟨h3,h4⟩:=hr3 i _ y hx hy
  exact ⟨by rw [← h3];exact h1,h4 F ρ ρ' _ hsub h2⟩
theorem MbAt.ren {F:Still} {ρ ρ' : Places} {L:List (Nat × Nat)} {nh:Nat} {kc:Nat × Nat} {o:Obj} {l l' : MB} (hsub : ∀ n n',Maps L nh n n' → ∀ c,ρ n = some c → ρ' n' = some c) (h:MbAt F ρ kc o l) (hr:qba L nh l l'):MbAt F ρ' kc o l':=by
 cases l with
 | map l =>
   cases l' with
   | map l' =>
     obtain ⟨es,clock,h1,l0,h2,h3⟩:=h
     obtain ⟨l2,h4,h5,h6⟩:=hr
     exact ⟨es,clock,h1,MapAt.ren hsub ⟨l0,h2.trans h4,h3⟩ h5 h6⟩
   | sit _ _=>exact hr.elim
   | typ _ _ _=>exact hr.elim
 | sit s p =>
   cases l' with
   | map l'=>exact hr.elim
   | sit s' p' =>
     obtain ⟨rfl,rfl⟩:=hr
     exact h
   | typ _ _ _=>exact hr.elim
 | typ e k rows =>
   cases l' with
   | map l'=>exact hr.elim
   | sit _ _=>exact hr.elim
   | typ e' k' rows' =>
     obtain ⟨rfl,rfl,hr⟩:=hr
     obtain ⟨c,h1,h2,h3,h4,h5⟩:=h
     refine ⟨c,h1,h2,h3,by rw [← hr.1];exact h4,fun row' hrow'=>?_,fun i j row' y v hi hj hv=>?_⟩
     ·obtain ⟨i,hi,he⟩:=List.getElem_of_mem hrow'
      have hi' : i < rows.length:=by rw [hr.1];exact hi
      have:=(hr.2 i _ row' (List.getElem?_eq_getElem hi') (by rw [List.getElem?_eq_getElem hi,he])).1
      rw [← this]
      exact h5.1 _ (List.getElem_mem hi')
     ·have hi' : i < rows.length:=by rw [hr.1];exact (List.getElem?_eq_some_iff.1 hi).1
      have hrow:=hr.2 i _ row' (List.getElem?_eq_getElem hi') hi
      have hj' : j < (rows[i]).length:=by rw [hrow.1];exact (List.getElem?_eq_some_iff.1 hj).1
      exact hrow.2 j _ y (List.getElem?_eq_getElem hj') hj F ρ ρ' v hsub (h5.2 i j _ _ v (List.getElem?_eq_getElem hi') (List.getElem?_eq_getElem hj') hv)
def y7 (L:List (Nat × Nat)) (nh:Nat) (σ:St):List (Nat × AV) → Prop
 | []=>True
 | (i,y) :: l=>jQ L nh (qr σ.ts i) y ∧ y7 L nh σ l
def yO (L:List (Nat × Nat)) (nh:Nat) (σ:St):List (Nat × HB) → Prop
 | []=>True
 | (n',y) :: l=>(∃ n,Maps L nh n n' ∧ yQ L nh (qB σ.hs n) y) ∧ yO L nh σ l
def zy (nh nx:Nat):List (Nat × Nat) → Bool
 | []=>decide (nh ≤ nx)
 | (n,n') :: l=>decide (nh ≤ n) && decide (nh ≤ n') && decide (n' < nx) && l.all (fun x=>x.1 != n && x.2 != n') && zy nh nx l
theorem Q4 {nh nx:Nat} : ∀ {l:List (Nat × Nat)},zy nh nx l = true → nh ≤ nx ∧ (∀ n n',(n,n') ∈ l → nh ≤ n ∧ nh ≤ n' ∧ n' < nx) ∧ (∀ n m n' m',(n,n') ∈ l → (m,m') ∈ l → (n = m ↔ n' = m'))
 | [],h=>⟨by simpa [zy] using h,(fun n n' h=>by cases h),(fun n m n' m' h=>by cases h)⟩
 | (a,a') :: l,h=>by
   simp only [zy,Bool.and_eq_true,decide_eq_true_eq] at h
   obtain ⟨⟨⟨⟨h1,h2⟩,h3⟩,h4⟩,h5⟩:=h
   obtain ⟨i1,i2,i3⟩:=Q4 h5
   have ne : ∀ n n',(n,n') ∈ l → n ≠ a ∧ n' ≠ a':=fun n n' hm=>by
    have:=List.all_eq_true.1 h4 (n,n') hm
    simpa using this
   refine ⟨i1,fun n n' hm=>?_,fun n m n' m' hn hm=>?_⟩
   ·rcases List.mem_cons.1 hm with e|hm
    ·injection e with e1 e2;subst e1;subst e2;exact ⟨h1,h2,h3⟩
    ·exact i2 n n' hm
   ·rcases List.mem_cons.1 hn with e|hn2
    ·rcases List.mem_cons.1 hm with f|hm2
     ·injection e with e1 e2;injection f with f1 f2;subst e1;subst e2;subst f1;subst f2;simp
     ·injection e with e1 e2;subst e1;subst e2
      have:=ne m m' hm2
      exact ⟨fun h=>absurd h.symm this.1,fun h=>absurd h.symm this.2⟩
    ·rcases List.mem_cons.1 hm with f|hm2
     ·injection f with f1 f2;subst f1;subst f2
      have:=ne n n' hn2
      exact ⟨fun h=>absurd h this.1,fun h=>absurd h this.2⟩
     ·exact i3 n m n' m' hn2 hm2
theorem zH (j:Nat) (y:AV) (l:List (Nat × AV)) (i:Nat):qr ((j,y) :: l) i = if j = i then y else qr l i:=rfl
theorem j5 (j:Nat) (y:HB) (l:List (Nat × HB)) (i:Nat):qB ((j,y) :: l) i = if j = i then y else qB l i:=by
 show (if j = i then some y else yn l i).getD .dead = _
 split<;>rfl
theorem V4 {L:List (Nat × Nat)} {nh:Nat} {σ:St} : ∀ {l:List (Nat × AV)},y7 L nh σ l → ∀ i,jQ L nh (qr σ.ts i) (qr l i)
 | [],_,i=>W5
 | (j,y) :: l,h,i=>by
   rw [zH]
   by_cases e:j = i
   ·rw [if_pos e];exact e ▸ h.1
   ·rw [if_neg e];exact V4 h.2 i
theorem JY {L:List (Nat × Nat)} {nh:Nat} {σ:St} : ∀ {l:List (Nat × HB)},yO L nh σ l → ∀ n',qB l n' = .dead ∨ ∃ n,Maps L nh n n' ∧ yQ L nh (qB σ.hs n) (qB l n')
 | [],_,n' => .inl rfl
 | (m,y) :: l,h,n'=>by
   have:=JY h.2 n'
   rw [j5]
   by_cases e:m = n'
   ·rw [if_pos e];exact .inr (e ▸ h.1)
   ·rw [if_neg e];exact this
theorem WE {C:Cx} {σ τ:St} {B:Base} {w:World} {F:Still} {ρ:Places} (L:List (Nat × Nat)) (hL:zy C.nh τ.nx L = true) (hh:yO L C.nh σ τ.hs) (hB : ∀ n,B.ρ0 n ≠ none → n < C.nh) (hp:Hp B (· < σ.nx) (qB σ.hs) F ρ w) :
  ∃ ρ',Hp B (· < τ.nx) (qB τ.hs) F ρ' w ∧ ∀ n n',Maps L C.nh n n' → ∀ c,ρ n = some c → ρ' n' = some c:=by
 obtain ⟨k1,k2,k3⟩:=Q4 hL
 classical
 let ρ' : Places:=fun n'=>if n' < C.nh then ρ n' else if h : ∃ n,(n,n') ∈ L then ρ (Classical.choose h) else none
 have hmap : ∀ n n',Maps L C.nh n n' → ρ' n' = ρ n:=by
  intro n n' hm
  rcases hm with ⟨h1,rfl⟩|h1
  ·simp only [ρ',h1,if_true]
  ·obtain ⟨_,h2,_⟩:=k2 n n' h1
   have hex : ∃ n,(n,n') ∈ L:=⟨n,h1⟩
   simp only [ρ',show ¬ n' < C.nh from by omega,if_false]
   rw [dif_pos hex,(k3 _ n n' n' (Classical.choose_spec hex) h1).2 rfl]
 have hsub : ∀ n n',Maps L C.nh n n' → ∀ c,ρ n = some c → ρ' n' = some c:=fun n n' hm c hc=>(hmap n n' hm).trans hc
 have hinj : ∀ n n' m',Maps L C.nh n n' → Maps L C.nh n m' → n' = m':=by
  intro n n' m' h1 h2
  rcases h1 with ⟨a1,rfl⟩|a1<;>rcases h2 with ⟨b1,rfl⟩|b1
  ·rfl
  ·have:=(k2 _ _ b1).1;omega
  ·have:=(k2 _ _ a1).1;omega
  ·exact (k3 n n n' m' a1 b1).1 rfl
 have hrows : ∀ {c:Array Value} {k:Nat} {rows rows' : List (List AV)},RowsAt F ρ c k rows → vq L C.nh rows rows' → RowsAt F ρ' c k rows':=by
  intro c k rows rows' hR hr
  have hget : ∀ (i:Nat) row',rows'[i]? = some row' → ∃ row,rows[i]? = some row ∧ jq L C.nh row row':=fun i row' hi=>by
   have hil:i < rows.length:=by rw [hr.1];exact (List.getElem?_eq_some_iff.1 hi).1
   exact ⟨_,List.getElem?_eq_getElem hil,hr.2 i _ _ (List.getElem?_eq_getElem hil) hi⟩
  refine ⟨fun row' hrow'=>?_,fun i j row' y v hi hj hv=>?_⟩
  ·obtain ⟨i,hi⟩:=List.mem_iff_getElem?.1 hrow'
   obtain ⟨row,h1,h2⟩:=hget i row' hi
   rw [← h2.1];exact hR.1 row (List.mem_of_getElem? h1)
  ·obtain ⟨row,h1,h2⟩:=hget i row' hi
   have hj' : j < row.length:=by rw [h2.1];exact (List.getElem?_eq_some_iff.1 hj).1
   have hx:row[j]? = some row[j]:=List.getElem?_eq_getElem hj'
   exact h2.2 j _ y hx hj F ρ ρ' v hsub (hR.2 i j row _ v h1 hx hv)
 have hfrom : ∀ n',(qB τ.hs n').isOwn = true → ∃ n,Maps L C.nh n n' ∧ (qB σ.hs n).isOwn = true:=by
  intro n' ho
  rcases JY hh n' with h1|⟨n,h1,h2⟩
  ·rw [h1] at ho;cases ho
  ·refine ⟨n,h1,?_⟩
   cases e1:qB τ.hs n' with
   | own ex k rows =>
     rw [e1] at h2
     cases e2:qB σ.hs n with
     | own _ _ _=>rfl
     | dead=>rw [e2] at h2;exact h2.elim
     | fz _=>rw [e2] at h2;exact h2.elim
     | mp _=>rw [e2] at h2;exact h2.elim
   | mp l =>
     rw [e1] at h2
     cases e2:qB σ.hs n with
     | mp _=>rfl
     | own _ _ _=>rw [e2] at h2;exact h2.elim
     | dead=>rw [e2] at h2;exact h2.elim
     | fz _=>rw [e2] at h2;exact h2.elim
   | dead=>rw [e1] at ho;cases ho
   | fz _=>rw [e1] at ho;cases ho
 refine ⟨ρ',?_,hsub⟩
 refine { kept:=hp.kept,agree:=hp.agree,grow:=hp.grow,fresh:=hp.fresh,names:=fun n c hn=>?_,dom:=fun n' hn=>?_,own:=fun n'=>?_,new:=fun n' b c ho hn=>?_,sep:=fun n' m' b c c' hne ho ho' hn hn'=>?_ }
 ·have:=hB n (by rw [hn];simp)
  simp only [ρ',this,if_true]
  exact hp.names n c hn
 ·show n' < τ.nx
  simp only [ρ'] at hn
  split at hn
  ·omega
  ·split at hn
   ·rename_i hex
    obtain ⟨n,hm⟩:=hex
    exact (k2 n n' hm).2.2
   ·exact absurd rfl hn
 ·rcases JY hh n' with h1|⟨n,h1,h2⟩
  ·rw [h1];trivial
  ·have h3:=hp.own n
   cases e1:qB τ.hs n' with
   | dead=>trivial
   | own ex k rows =>
     rw [e1] at h2
     cases e2:qB σ.hs n with
     | own ex' k' rows' =>
       rw [e2] at h2 h3
       obtain ⟨hex,rfl,hr⟩:=h2
       rcases h3 with ⟨h4,h5⟩|⟨b,cap,c,e,h4,h5,h6,h7,h8,h9⟩
       ·refine .inl ⟨by rw [hmap n n' h1];exact h4,?_⟩
        subst h5
        exact List.eq_nil_of_length_eq_zero (by rw [← hr.1];rfl)
       ·exact .inr ⟨b,cap,c,e,by rw [hmap n n' h1];exact h4,h5,h6,by rw [← hr.1];exact h7,fun h=>by rw [← hr.1];exact h8 (hex h),hrows h9 hr⟩
     | dead=>rw [e2] at h2;exact h2.elim
     | fz _=>rw [e2] at h2;exact h2.elim
     | mp _=>rw [e2] at h2;exact h2.elim
   | mp l =>
     rw [e1] at h2
     cases e2:qB σ.hs n with
     | mp l0 =>
       rw [e2] at h2 h3
       obtain ⟨b,es,clock,h4,h5,h6⟩:=h3
       exact ⟨b,es,clock,by rw [hmap n n' h1];exact h4,h5,h6.ren hsub h2⟩
     | dead=>rw [e2] at h2;exact h2.elim
     | fz _=>rw [e2] at h2;exact h2.elim
     | own _ _ _=>rw [e2] at h2;exact h2.elim
   | fz rows =>
     rw [e1] at h2
     cases e2:qB σ.hs n with
     | fz rows' =>
       rw [e2] at h2 h3
       have h2:rows' = rows:=h2
       subst h2
       rcases h3 with ⟨h4,h5⟩|⟨b,k,cap,c,e,fr,h4,h5⟩
       ·exact .inl ⟨by rw [hmap n n' h1];exact h4,h5⟩
       ·exact .inr ⟨b,k,cap,c,e,fr,by rw [hmap n n' h1];exact h4,h5⟩
     | dead=>rw [e2] at h2;exact h2.elim
     | own _ _ _=>rw [e2] at h2;exact h2.elim
     | mp _=>rw [e2] at h2;exact h2.elim
 ·obtain ⟨n,h1,h2⟩:=hfrom n' ho
  rw [hmap n n' h1] at hn
  exact hp.new n b c h2 hn
 ·obtain ⟨n,h1,h2⟩:=hfrom n' ho
  obtain ⟨m,h3,h4⟩:=hfrom m' ho'
  rw [hmap n n' h1] at hn
  rw [hmap m m' h3] at hn'
  exact hp.sep n m b c c' (fun e=>hne (hinj n n' m' h1 (e ▸ h3))) h2 h4 hn hn'
theorem qN {C:Cx} {σ τ:St} (L:List (Nat × Nat)) (hL:zy C.nh τ.nx L = true) (ht:y7 L C.nh σ τ.ts) (hh:yO L C.nh σ τ.hs):Red C σ τ:=by
 intro B a w hB ⟨g1,g2,F,ρ,hp,g4⟩
 obtain ⟨ρ',hp',hsub⟩:=WE L hL hh hB hp
 exact ⟨g1,g2,F,ρ',hp',fun i=>V4 ht i F ρ ρ' _ hsub (g4 i)⟩
theorem jt {C:Cx} {σ:St} {ts:List (Nat × AV)} (ht:y7 [] C.nh σ ts):Red C σ ⟨ts,[],C.nh⟩:=qN [] (by simp [zy]) ht trivial
theorem Yj {C:Cx} {ts:List (Nat × AV)} {hs:List (Nat × HB)} {nx:Nat} (n:Nat) {ex:Bool} {k:Nat} {rows:List (List AV)} (hn:qB hs n = .own ex k rows) (hr : ∀ row,row ∈ rows → AV.pure.pureL row = true):Red C ⟨ts,hs,nx⟩ ⟨ts,(n,.fz rows) :: hs,nx⟩:=by
 intro B a w hB ⟨g1,g2,F,ρ,hp,g4⟩
 classical
 let F' : Still:=fun b=>if ∃ c,ρ n = some (some (b,c)) then w.heap[b]? else F b
 have ho:=hp.own n
 have hn' : (qB hs n).isOwn = true:=by rw [hn];rfl
 have hle:F.le F':=fun b o hb=>by
  simp only [F']
  split
  ·rename_i hex
   obtain ⟨c,hc⟩:=hex
   rw [(hp.new n b c hn' hc).1] at hb;cases hb
  ·exact hb
 refine ⟨g1,g2,F',ρ,?_,fun i=>(g4 i).mono hle (Places.le_refl ρ)⟩
 refine { kept:=hp.kept,agree:=fun b o hb=>?_,grow:=fun b o hb=>hle b o (hp.grow b o hb),fresh:=fun b hb=>?_,names:=hp.names,dom:=hp.dom,own:=fun m=>?_,new:=fun m b c hm hρ=>?_,sep:=fun m m' b c c' hne hm hm' h1 h2=>?_ }
 ·simp only [F'] at hb
  split at hb
  ·exact hb
  ·exact hp.agree b o hb
 ·simp only [F'] at hb
  split at hb
  ·rename_i hex
   obtain ⟨c,hc⟩:=hex
   exact .inr (hp.new n b c hn' hc).2
  ·exact hp.fresh b hb
 ·show OwnAt F' ρ w m (qB ((n,.fz rows) :: hs) m)
  rw [j5]
  by_cases hnm:n = m
  ·subst hnm
   rw [if_pos rfl]
   rw [hn] at ho
   rcases ho with ho|⟨b,cap,c,e,h1,h2,h3,h4,h5,h6⟩
   ·exact .inl ho
   ·refine .inr ⟨b,k,cap,c,e,(0,0),h1,?_,by rw [h3];exact Nat.mul_le_mul_right _ h4,h4,h6.1,fun i j row x v a1 a2 a3=>((h6.2 i j row x v a1 a2 a3).moved _ (x2 (hr row (List.mem_of_getElem? a1)) a2)).mono hle (Places.le_refl _)⟩
    simp only [F']
    rw [if_pos ⟨_,h1⟩];exact h2
  ·rw [if_neg hnm]
   have h0:=hp.own m
   show OwnAt F' ρ w m (qB hs m)
   have h0:OwnAt F ρ w m (qB hs m):=h0
   cases e:qB hs m with
   | dead=>trivial
   | fz rows' =>
     rw [e] at h0
     rcases h0 with h1|⟨b,k',cap,c,e',fr,h1,h2,h3,h4,h5⟩
     ·exact .inl h1
     ·exact .inr ⟨b,k',cap,c,e',fr,h1,hle _ _ h2,h3,h4,h5.mono hle (Places.le_refl _)⟩
   | mp l =>
     rw [e] at h0
     obtain ⟨b,es,clock,h1,h2,h3⟩:=h0
     exact ⟨b,es,clock,h1,h2,h3.mono hle (Places.le_refl _)⟩
   | own ex' k' rows' =>
     rw [e] at h0
     rcases h0 with h1|⟨b,cap,c,e',h1,h2,h3,h4,h5,h6⟩
     ·exact .inl h1
     ·exact .inr ⟨b,cap,c,e',h1,h2,h3,h4,h5,h6.mono hle (Places.le_refl _)⟩
 ·have hm:(qB ((n,.fz rows) :: hs) m).isOwn = true:=hm
  rw [j5] at hm
  by_cases hnm:n = m
  ·rw [if_pos hnm] at hm;cases hm
  ·rw [if_neg hnm] at hm
   have h1:=hp.new m b c hm hρ
   refine ⟨?_,h1.2⟩
   simp only [F']
   rw [if_neg (fun ⟨c',hc'⟩=>hp.sep n m b c' c hnm hn' hm hc' hρ)]
   exact h1.1
 ·have hm:(qB ((n,.fz rows) :: hs) m).isOwn = true:=hm
  have hm' : (qB ((n,.fz rows) :: hs) m').isOwn = true:=hm'
  rw [j5] at hm hm'
  by_cases hnm:n = m
  ·rw [if_pos hnm] at hm;cases hm
  ·by_cases hnm' : n = m'
   ·rw [if_pos hnm'] at hm';cases hm'
   ·rw [if_neg hnm] at hm;rw [if_neg hnm'] at hm'
    exact hp.sep m m' b c c' hne hm hm' h1 h2
theorem Qo {C:Cx} {ts:List (Nat × AV)} {hs:List (Nat × HB)} {nx:Nat} (i:Nat) (k:Nat) (hi:qr ts i = .sl true []) (hnx:C.nh ≤ nx):Red C ⟨ts,hs,nx⟩ ⟨(i,.os nx 0 0) :: ts,(nx,.own true k []) :: hs,nx + 1⟩:=by
 intro B a w hB ⟨g1,g2,F,ρ,hp,g4⟩
 let ρ' : Places:=fun n=>if n = nx then some none else ρ n
 have hnone:ρ nx = none:=by
  cases h:ρ nx with
  | none=>rfl
  | some c=>exact absurd (hp.dom nx (by rw [h];simp)) (Nat.lt_irrefl _)
 have hle:ρ.le ρ':=fun n c hn=>by
  simp only [ρ']
  by_cases e:n = nx
  ·subst e;rw [hnone] at hn;cases hn
  ·rw [if_neg e];exact hn
 refine ⟨g1,g2,F,ρ',?_,fun j=>?_⟩
 ·refine { kept:=hp.kept,agree:=hp.agree,grow:=hp.grow,fresh:=hp.fresh,names:=fun n c hn=>hle n c (hp.names n c hn),dom:=fun n hn=>?_,own:=fun n=>?_,new:=fun n b c ho hn=>?_,sep:=fun n m b c c' hne ho ho' hn hn'=>?_ }
  ·simp only [ρ'] at hn
   show n < nx + 1
   by_cases e:n = nx
   ·omega
   ·rw [if_neg e] at hn;have:n < nx:=hp.dom n hn;omega
  ·show OwnAt F ρ' w n (qB ((nx,.own true k []) :: hs) n)
   rw [j5]
   by_cases e:nx = n
   ·rw [if_pos e];subst e;exact .inl ⟨by simp [ρ'],rfl⟩
   ·rw [if_neg e]
    have h0:OwnAt F ρ w n (qB hs n):=hp.own n
    cases e1:qB hs n with
    | dead=>trivial
    | fz rows' =>
      rw [e1] at h0
      rcases h0 with ⟨h1,h2⟩|⟨b,k',cap,c,e',fr,h1,h2,h3⟩
      ·exact .inl ⟨hle _ _ h1,h2⟩
      ·exact .inr ⟨b,k',cap,c,e',fr,hle _ _ h1,h2,h3⟩
    | mp l =>
      rw [e1] at h0
      obtain ⟨b,es,clock,h1,h2,h3⟩:=h0
      exact ⟨b,es,clock,hle _ _ h1,h2,h3.mono (Still.le_refl _) hle⟩
    | own ex' k' rows' =>
      rw [e1] at h0
      rcases h0 with ⟨h1,h2⟩|⟨b,cap,c,e',h1,h2,h3,h4,h5,h6⟩
      ·exact .inl ⟨hle _ _ h1,h2⟩
      ·exact .inr ⟨b,cap,c,e',hle _ _ h1,h2,h3,h4,h5,h6.mono (Still.le_refl _) hle⟩
  ·have ho:(qB ((nx,.own true k []) :: hs) n).isOwn = true:=ho
   rw [j5] at ho
   simp only [ρ'] at hn
   by_cases e:n = nx
   ·rw [if_pos e] at hn;cases hn
   ·rw [if_neg e] at hn;rw [if_neg (fun h=>e h.symm)] at ho;exact hp.new n b c ho hn
  ·have ho:(qB ((nx,.own true k []) :: hs) n).isOwn = true:=ho
   have ho' : (qB ((nx,.own true k []) :: hs) m).isOwn = true:=ho'
   rw [j5] at ho ho'
   simp only [ρ'] at hn hn'
   by_cases e:n = nx
   ·rw [if_pos e] at hn;cases hn
   ·by_cases e' : m = nx
    ·rw [if_pos e'] at hn';cases hn'
    ·rw [if_neg e] at hn;rw [if_neg e'] at hn'
     rw [if_neg (fun h=>e h.symm)] at ho;rw [if_neg (fun h=>e' h.symm)] at ho'
     exact hp.sep n m b c c' hne ho ho' hn hn'
 ·show M F ρ' _ (qr ((i,_) :: ts) j)
  rw [zH]
  by_cases e:i = j
  ·subst e
   rw [if_pos rfl]
   have h1:M F ρ _ (qr ts i):=g4 i
   rw [hi] at h1
   rcases h1.sl_inv with ⟨_,ad,cap,hv,hc,_⟩|⟨b,o,cap,c,e',fr,kk,hb,_,hc,_,_,_,hv⟩
   ·have hc0:cap = 0:=hc rfl
    subst hc0;rw [hv];exact .osn _ nx ad (by simp [ρ'])
   ·have hc0:cap = 0:=hc rfl
    subst hc0;rw [hv];exact .osn _ nx _ (by simp [ρ'])
  ·rw [if_neg e];exact (g4 j).mono (Still.le_refl _) hle
theorem qaG {C:Cx} {rs:List ResultVar} {σ:St} {xs:List AV} {r:AV} {H' : List HB} (L:List (Nat × Nat)) (nx:Nat) (hr:ResOk C σ rs xs) (hL:zy C.nh nx L = true) (hh:yO L C.nh σ (zi 0 H')) (hz:jQ L C.nh (jx xs) r):Fin C rs.toArray C.nh r H' σ:=by
 intro fn B a w hrs hρ0 hds ⟨g1,g2,F,ρ,hp,g4⟩
 obtain ⟨v,hrun,hm⟩:=Ja hrs hp g4 hr
 obtain ⟨ρ',hp',hsub⟩:=WE (τ:=⟨[],zi 0 H',nx⟩) L hL hh hρ0 hp
 refine ⟨v,hrun,hds.symm,rfl,F,ρ',?_,fun i=>?_⟩
 ·have he:(fun n=>H'.getD n .dead) = qB (zi 0 H'):=by
   funext n
   have:=JV H' 0 n
   rw [Nat.zero_add] at this
   exact this.symm
  rw [he]
  exact { hp' with dom:=fun _ _=>trivial,kept:=⟨hp'.kept.os,hp'.kept.tape,hp'.kept.output,hp'.kept.size,hp'.kept.block⟩ }
 ·by_cases hi:i = 0
  ·subst hi;exact hz F ρ ρ' v hsub hm
  ·unfold one;rw [if_neg hi];exact .junk _ _
theorem qp {L:List (Nat × Nat)} {nh:Nat} {σ:St}:y7 L nh σ []:=trivial
theorem QO {L:List (Nat × Nat)} {nh:Nat} {σ:St} {i:Nat} {x y:AV} {l:List (Nat × AV)} (hx:qr σ.ts i = x) (h:jQ L nh x y) (hl:y7 L nh σ l):y7 L nh σ ((i,y) :: l):=⟨by rw [hx];exact h,hl⟩
theorem Xa {L:List (Nat × Nat)} {nh:Nat} {σ:St} {i:Nat} {x:AV} {l:List (Nat × AV)} (hx:qr σ.ts i = x) (hp:x.pure = true) (hl:y7 L nh σ l):y7 L nh σ ((i,x) :: l):=⟨by rw [hx];exact ql hp,hl⟩
theorem qa7 {L:List (Nat × Nat)} {nh:Nat} {σ:St} {i:Nat} {x y:AV} {l:List (Nat × AV)} (hx:qr σ.ts i = x) (hxy:x = y) (hp:y.pure = true) (hl:y7 L nh σ l):y7 L nh σ ((i,y) :: l):=Xa (hx.trans hxy) hp hl
theorem qh {L:List (Nat × Nat)} {nh:Nat} {σ:St}:yO L nh σ []:=trivial
theorem zI {L:List (Nat × Nat)} {nh:Nat} {σ:St} {n n' : Nat} {ex ex' : Bool} {k:Nat} {rows rows' : List (List AV)} {l:List (Nat × HB)} (hm:Maps L nh n n') (hx:qB σ.hs n = .own ex k rows) (he:ex' = true → ex = true) (hr:vq L nh rows rows') (hl:yO L nh σ l) :
  yO L nh σ ((n',.own ex' k rows') :: l):=⟨⟨n,hm,by rw [hx];exact ⟨he,rfl,hr⟩⟩,hl⟩
theorem qbC {C:Cx} {ts:List (Nat × AV)} {hs:List (Nat × HB)} {nx:Nat} (i n:Nat) {r j:Nat} {rows:List (List AV)} (hi:qr ts i = .op n r j) (hn:qB hs n = .fz rows) (hr:r < rows.length):Red C ⟨ts,hs,nx⟩ ⟨(i,.fp rows r j) :: ts,hs,nx⟩:=by
 intro B a w hB ⟨g1,g2,F,ρ,hp,g4⟩
 refine ⟨g1,g2,F,ρ, { kept:=hp.kept,agree:=hp.agree,grow:=hp.grow,fresh:=hp.fresh,names:=hp.names,dom:=hp.dom,own:=hp.own,new:=hp.new,sep:=hp.sep },fun m=>?_⟩
 show M F ρ _ (qr ((i,_) :: ts) m)
 rw [zH]
 by_cases him:i = m
 ·subst him
  rw [if_pos rfl]
  have h1:=g4 i
  have h1:M F ρ _ (qr ts i):=h1
  rw [hi] at h1
  have h2:=hp.own n
  have h2:OwnAt F ρ w n (qB hs n):=h2
  rw [hn] at h2
  rcases h2 with ⟨_,h3⟩|⟨b',k,cap',c,e,fr,h3,hb,hsz,hle,hR⟩
  ·rw [h3] at hr;simp at hr
  ·obtain ⟨b,k',cap,hρ,hv⟩:=h1.op_inv
   rw [hρ] at h3
   simp only [Option.some.injEq,Prod.mk.injEq] at h3
   obtain ⟨rfl,rfl,rfl⟩:=h3
   rw [hv]
   have:=M.fp (F:=F) ρ b 0 c e fr k' rows r j hb hr (by rw [Nat.zero_add];exact hsz) hR.1 (fun i j row x v a1 a2 a3=>hR.2 i j row x v a1 a2 (by rw [Nat.zero_add] at a3;exact a3))
   rw [Nat.zero_add] at this
   exact this
 ·rw [if_neg him]
  exact g4 m
end Go.Ab
