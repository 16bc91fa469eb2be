import Derived.Test.YtgcncinnlmjgdaaGreatDoorMz7
import Derived.Test.YtgcncinnlmjgdaaGreatDoorMz24
set_option linter.unusedSimpArgs false
set_option linter.unusedVariables false
namespace Go.Ab
open Go.RowKit
def Q0 (L:List (Nat × Nat)) (h:Nat → HB):List Nat → List HB → Prop
 | [],[]=>True
 | n :: ns,hb :: hbs=>((h n).isOwn = true ∧ xb L 0 (h n) hb) ∧ Q0 L h ns hbs
 | _,_=>False
def Yi (L:List (Nat × Nat)):List (Nat × HB) → List HB → Prop
 | [],_=>True
 | (n,hb) :: zs,hbs=>xb L 0 (hbs.headD .dead) hb ∧ Yi L zs hbs.tail
theorem Jp {L:List (Nat × Nat)} {h:Nat → HB} : ∀ {ns:List Nat} {H:List HB},Q0 L h ns H → ∀ (i:Nat) n hb,ns[i]? = some n → H[i]? = some hb → (h n).isOwn = true ∧ xb L 0 (h n) hb
 | [],H,_,i,n,hb,hn,_=>by simp at hn
 | m :: ns,hb' :: H,hg,i,n,hb,hn,hh=>by
   cases i with
   | zero=>simp at hn hh;subst hn;subst hh;exact hg.1
   | succ i=>exact Jp hg.2 i n hb (by simpa using hn) (by simpa using hh)
 | m :: ns,[],hg,i,n,hb,hn,hh=>hg.elim
theorem qba {L:List (Nat × Nat)} : ∀ {Z:List (Nat × HB)} {H:List HB},Yi L Z H → ∀ (i:Nat) n hb,Z[i]? = some (n,hb) → xb L 0 (H.getD i .dead) hb
 | [],H,_,i,n,hb,hn=>by simp at hn
 | (m,hb') :: Z,H,hg,i,n,hb,hn=>by
   cases i with
   | zero =>
     simp at hn;obtain ⟨rfl,rfl⟩:=hn;have:=hg.1
     cases H with
     | nil=>exact this
     | cons x H=>exact this
   | succ i =>
     have:=qba hg.2 i n hb (by simpa using hn)
     cases H with
     | nil=>simpa using this
     | cons x H=>simpa using this
theorem xn {L:List (Nat × Nat)} {h:Nat → HB}:Q0 L h [] []:=trivial
theorem jY {L:List (Nat × Nat)} {h:Nat → HB} {n:Nat} {ns:List Nat} {hb:HB} {H:List HB} (hb0:HB) (hl:Q0 L h ns H) (hr:xb L 0 hb0 hb) (hn:h n = hb0:=by rfl) (ho:hb0.isOwn = true:=by rfl):Q0 L h (n :: ns) (hb :: H):=⟨by rw [hn];exact ⟨ho,hr⟩,hl⟩
theorem yM {L:List (Nat × Nat)} {H:List HB}:Yi L [] H:=trivial
theorem qY {L:List (Nat × Nat)} {n:Nat} {hb hb' : HB} {Z:List (Nat × HB)} {H:List HB} (hr:xb L 0 hb' hb) (hl:Yi L Z H):Yi L ((n,hb) :: Z) (hb' :: H):=⟨hr,hl⟩
theorem yG {L:List (Nat × Nat)} {nh:Nat} {hb:HB}:xb L nh hb .dead:=by cases hb<;>trivial
theorem xr {L:List (Nat × Nat)} {nh:Nat} {l:List (List UInt8 × AV)} (hp : ∀ e,e ∈ l → e.2.pure = true):xb L nh (.mp (.map l)) (.mp (.map l)) :=
 ⟨l,.refl _,rfl,fun i x y h1 h2=>by
  rw [h1] at h2;obtain rfl:=Option.some.inj h2
  exact ⟨rfl,qy (hp x (List.mem_of_getElem? h1))⟩⟩
theorem jt {L:List (Nat × Nat)} {nh:Nat} {ex ex' : Bool} {k:Nat} {row row' : List AV} (hr:j1 L nh row row') (he:ex' = true → ex = true:=by first|exact id|exact nofun):xb L nh (.own ex k [row]) (.own ex' k [row']):=⟨he,rfl,yL hr xg⟩
theorem ZF : ∀ (Z hs:List (Nat × HB)) (n:Nat),yb (Z ++ hs) n = (yb Z n).or (yb hs n)
 | [],hs,n=>by simp [yb]
 | (m,x) :: Z,hs,n=>by
   rw [List.cons_append];simp only [yb];split
   ·rfl
   ·exact ZF Z hs n
section calls
variable {C:Cx} {N d:Nat} {ty:TypeId} {pos:String} {af:Array Edge} {gd:Option (Nat × Bool)} {t:Nat → AV} {h:Nat → HB}
theorem qdF {f:FuncId} {x:Operand} {first cap:List AV} {args:List Operand} {tys:Array TypeId} {ys:List AV} {H H' : List HB} {r r' : AV} (ns fr:List Nat) (Z:List (Nat × HB)) (hx:evA t x = .clo (.func f) first cap)
  (hf:IsFn C.P f) (hc:qf C.P f ys H r H') (hns:(Z.map (·.1)).take H.length = ns) (hfr:(Z.map (·.1)).drop H.length = fr) (hHZ:H.length ≤ Z.length) (hnd:(Z.map (·.1)).Nodup)
  (hz:qX (j6 0 ns) ns h (first ++ args.map (evA t) ++ cap) ys) (hg:Q0 (j6 0 ns) h ns H) (hb:Yi (zq (j6 0 (Z.map (·.1)))) Z H') (hr:r.ren (zq (j6 0 (Z.map (·.1)))) = r') (hN:d < N) :
  qz C.P N ⟨some d,.call ⟨.value x,args.toArray,tys⟩,ty,pos,af,gd⟩ t h ⟨qW x ++ args.flatMap qW,ns,some d,r',Z,fr⟩ :=
 kX (H:=H) (H':=H') (xs:=first ++ args.map (evA t) ++ cap) (ys:=ys) _ ns Z fr rfl hN (xd f hf x args tys first cap hx) hfr hHZ hnd (fun n hn=>by rw [hns] at hn;exact hn)
  (by rw [hns];exact hz) hc (fun i n hb1 hi hj=>by rw [hns] at hi ⊢;exact Jp hg i n hb1 hi hj) (fun i n hb1 hi=>qba hb i n hb1 hi) (hr ▸ Za _ _ _)
end calls
section steps
variable {C:Cx} {N:Nat} {all:Array Oper} {es:List Eff} {o:Oper} {os:List Oper} {K:List Eff → St → Prop} {ts:List (Nat × AV)} {hs:List (Nat × HB)} {nx:Nat} {gd:List Nat}
theorem qbA {rt rh fr:List Nat} {d:Nat} {x:AV} {Z:List (Nat × HB)} {nx' : Nat} (hE:qz C.P N o (qm ts) (qh hs) ⟨rt,rh,some d,x,Z,fr⟩) (hi:zc nx fr = true) (hn : ∀ n,n ∈ fr → n < nx') (hle:nx ≤ nx')
  (h:j9 C N all (⟨gd ++ rt,rh,some d,x,Z,fr⟩ :: es) ⟨(d,x) :: ts,Z ++ hs,nx'⟩ os K):jr C N all gd es ⟨ts,hs,nx⟩ o os K:=by
 refine QJ (τ:=⟨(d,x) :: ts,Z ++ hs,nx'⟩) hE ?_ ?_ hi hn hle h
 ·funext i;simp only [Eff.t,Eff.wT,Option.some.injEq,qm];split<;>rfl
 ·funext n;show (yb Z n).getD (qh hs n) = qh (Z ++ hs) n;unfold qh;rw [ZF];cases yb Z n<;>rfl
theorem vc {f:FuncId} {args:List Operand} {tys:Array TypeId} {d:Nat} {ty:TypeId} {pos:String} {af:Array Edge} {gg:Option (Nat × Bool)} {ys:List AV} {H H' : List HB} {r:AV} (ns fr:List Nat) (Z:List (Nat × HB)) (nx' : Nat) (r' : AV) (hf:IsFn C.P f) (hc:qf C.P f ys H r H')
  (hz:qX (j6 0 ns) ns (qh hs) (args.map (evA (qm ts))) ys) (hg:Q0 (j6 0 ns) (qh hs) ns H) (hb:Yi (zq (j6 0 (Z.map (·.1)))) Z H')
  (k:j9 C N all (⟨gd ++ (qW (.func f) ++ args.flatMap qW),ns,some d,r',Z,fr⟩ :: es) ⟨(d,r') :: ts,Z ++ hs,nx'⟩ os K)
  (hr:r.ren (zq (j6 0 (Z.map (·.1)))) = r':=by rfl) (hns:(Z.map (·.1)).take H.length = ns:=by rfl) (hfr:(Z.map (·.1)).drop H.length = fr:=by rfl) (hHZ:H.length ≤ Z.length:=by exact Nat.le_of_ble_eq_true rfl) (hnd:(Z.map (·.1)).Nodup:=by exact of_decide_eq_true rfl)
  (hi:zc nx fr = true:=by rfl) (hn : ∀ n,n ∈ fr → n < nx':=by exact of_decide_eq_true rfl) (hle:nx ≤ nx':=by exact Nat.le_of_ble_eq_true rfl) (hN:d < N:=by exact nle rfl):kC C N all gd es ⟨ts,hs,nx⟩ f args d tys ty pos af gg os K :=
 qbA (qdF ns fr Z (x := .func f) (first:=[]) (cap:=[]) rfl hf hc hns hfr hHZ hnd (by rw [List.nil_append,List.append_nil];exact hz) hg hb hr hN) hi hn hle k
theorem YM {f:FuncId} {fn:Func} {x:Operand} {first cap:List AV} {args:List Operand} {tys:Array TypeId} {d:Nat} {ty:TypeId} {pos:String} {af:Array Edge} {gg:Option (Nat × Bool)} {ys:List AV} {H H' : List HB} {r:AV} (ns fr:List Nat) (Z:List (Nat × HB)) (nx' : Nat) (r' : AV) (hf:C.P.funcs[f]? = some fn) (hc:qf C.P f ys H r H')
  (hz:qX (j6 0 ns) ns (qh hs) (first ++ args.map (evA (qm ts)) ++ cap) ys) (hg:Q0 (j6 0 ns) (qh hs) ns H) (hb:Yi (zq (j6 0 (Z.map (·.1)))) Z H')
  (k:j9 C N all (⟨gd ++ (qW x ++ args.flatMap qW),ns,some d,r',Z,fr⟩ :: es) ⟨(d,r') :: ts,Z ++ hs,nx'⟩ os K) (hx:evA (qm ts) x = .clo (.func f) first cap:=by rfl) (hb0:fn.body.isNone = false:=by rfl) (hn0:(fn.name == "runtime.NumGoroutine") = false:=by rfl)
  (hr:r.ren (zq (j6 0 (Z.map (·.1)))) = r':=by rfl) (hns:(Z.map (·.1)).take H.length = ns:=by rfl) (hfr:(Z.map (·.1)).drop H.length = fr:=by rfl) (hHZ:H.length ≤ Z.length:=by exact Nat.le_of_ble_eq_true rfl) (hnd:(Z.map (·.1)).Nodup:=by exact of_decide_eq_true rfl)
  (hi:zc nx fr = true:=by rfl) (hn : ∀ n,n ∈ fr → n < nx':=by exact of_decide_eq_true rfl) (hle:nx ≤ nx':=by exact Nat.le_of_ble_eq_true rfl) (hN:d < N:=by exact nle rfl):jr C N all gd es ⟨ts,hs,nx⟩ ⟨some d,.call ⟨.value x,args.toArray,tys⟩,ty,pos,af,gg⟩ os K :=
 qbA (qdF ns fr Z hx (qr hf hb0 hn0) hc hns hfr hHZ hnd hz hg hb hr hN) hi hn hle k
end steps
theorem X6 {L:List (Nat × Nat)} {nh:Nat} {σ:St} {n' : Nat} {l:List (Nat × HB)} (hl:yd L nh σ l) (hm:Maps L nh n' n':=by exact jy rfl):yd L nh σ ((n',.dead) :: l):=zH n' hm hl
theorem Ga.forget {B:Base} {A A' : Nat → Prop} {t t' : Nat → AV} {h h' : Nat → HB} {a:Act} {w:World} (g:Ga B A t h a w) (hA : ∀ n,A n → A' n) (ht : ∀ i,t' i = t i ∨ t' i = .junk) (hh : ∀ n,h' n = h n ∨ h' n = .dead):Ga B A' t' h' a w:=by
 obtain ⟨g1,g2,F,ρ,hp,g4⟩:=g
 have hown : ∀ n,(h' n).isOwn = true → h' n = h n:=fun n ho=>by
  rcases hh n with e|e
  ·exact e
  ·rw [e] at ho;cases ho
 refine ⟨g1,g2,F,ρ, { hp with dom:=fun n hn=>hA n (hp.dom n hn),own:=fun n=>?_,new:=fun n b c ho hn=>hp.new n b c (hown n ho ▸ ho) hn,sep:=fun n m b c c' hne ho ho' hn hn'=>hp.sep n m b c c' hne (hown n ho ▸ ho) (hown m ho' ▸ ho') hn hn' },fun i=>?_⟩
 ·rcases hh n with e|e
  ·rw [e];exact hp.own n
  ·rw [e];trivial
 ·rcases ht i with e|e
  ·rw [e];exact g4 i
  ·rw [e];exact .junk _ _
theorem qjB {P:Program} {o:Oper} {a:Act} {w w1:World} {f:FuncId} {vs:Array Value} {K:Act → World → Prop} {Q:Exit → Act → World → Prop} (he:(execOp a.eval o).run P w = .ok (.enter f vs) w1) {R:Ending → World → Prop} (hc:Calls P f vs w1 R)
  (hk : ∀ e w',R e w' → ∃ ch,e = .panicked ch ∧ Q (.panic ch) a w'):o.wp P a w K Q:=by
 unfold Oper.wp;rw [he,Oper.upon_enter];refine hc.mono fun e w' hr=>?_
 obtain ⟨ch,rfl,hk'⟩:=hk e w' hr;exact hk'
section steps
variable {C:Cx} {N:Nat} {all:Array Oper} {es:List Eff} {o:Oper} {os:List Oper} {K:List Eff → St → Prop} {ts:List (Nat × AV)} {hs:List (Nat × HB)} {nx:Nat} {gd:List Nat}
theorem W9 {f:FuncId} {xs ys:List AV} {H:List HB} {ch:List PanicEntry} {HP:List HB → Prop} {d:Nat} (rt rh L kt:List Nat) (hd:o.dst = some d) (hN:d < N) (he:jU C.P o (qm ts) rt f xs)
  (hHZ:H.length = L.length) (hnd:L.Nodup) (hrh : ∀ n,n ∈ L.take H.length → n ∈ rh) (hargs:qX (j6 0 (L.take H.length)) rh (qh hs) xs ys)
  (hH : ∀ (i:Nat) n hb,(L.take H.length)[i]? = some n → H[i]? = some hb → ((qh hs) n).isOwn = true ∧ xb (j6 0 (L.take H.length)) 0 ((qh hs) n) hb) (hc:vj C.P f ys H ch HP)
  (hdie : ∀ H',HP H' → ∃ Z:List (Nat × HB),Z.map (·.1) = L ∧ (∀ (i:Nat) n hb,Z[i]? = some (n,hb) → xb (zq (j6 0 L)) 0 (H'.getD i .dead) hb) ∧ C.die ch (kt.map fun j=>(j,qm ts j)) (Z ++ rh.map fun n=>(n,qh hs n))) (hkd:d ∉ kt)
  (k:j9 C N all (⟨gd ++ (rt ++ kt),rh,some d,xw,[],[]⟩ :: es) ⟨(d,xw) :: ts,hs,nx⟩ os K):jr C N all gd es ⟨ts,hs,nx⟩ o os K:=by
 intro hw σ0 hch hdr;obtain ⟨ho,hd'⟩:=Qf hdr;rw [Array.getElem?_toList] at ho
 have hOp:qbQ C.P (Zc C) all N es.length (qm ts) (qh hs) ⟨gd ++ (rt ++ kt),rh,some d,xw,[],[]⟩:=by
  intro B A t' h' a w Q K' hBN hZ hAm g hrt hrh' hfr hK;unfold wpOp;simp only [ho]
  have hwant:Region.wanted o (yielded all a.tmps) = true:=by
   obtain ⟨_,_,F,ρ,_,g4⟩:=g;exact hw F ρ a fun j hj=>(hrt j (List.mem_append_left _ hj)) ▸ g4 j
  rw [if_pos hwant];refine .inl ?_;obtain ⟨vs,B',hrun,e1,e2,hGa,hend⟩:=qdx (C:=C) (N:=N) (h:=qh hs) rt rh L [] hd hN he (by rw [hHZ,List.drop_length]) (by omega) hnd hrh hargs hH B A t' h' a w hBN g (fun j hj=>hrt j (List.mem_append_right _ (List.mem_append_left _ hj))) hrh' (fun n hn=>by cases hn);refine qjB hrun (hc B' vs w e1 e2 hGa) ?_;rintro e w' ⟨rfl,H',hp,hg⟩;refine ⟨ch,rfl,hZ _ _ _ ?_⟩;obtain ⟨Z,hZL,hren,hC⟩:=hdie H' hp;have g':=hend undef w' (.tup []) (.tup []) H' Z hZL hren (Za _ _ _) hg;obtain ⟨m,hm⟩:=hAm;refine ⟨_,_,m,hC,?_⟩;obtain ⟨q1,q2,q3⟩:=g'
  have g2:Ga B (fun n=>A n ∨ n ∈ ([]:List Nat)) (fun i=>if i = d then .junk else t' i) (Eff.h ⟨rt,rh,some d,.tup [],Z,[]⟩ h') a w':=by
   obtain ⟨F,ρ,hp',q4⟩:=q3;refine ⟨by simpa [Act.put,hd] using q1,by rw [vG] at q2;exact q2,F,ρ,hp',fun i=>?_⟩;show M F ρ _ (if i = d then AV.junk else t' i);by_cases hid:i = d
   ·rw [if_pos hid];exact .junk _ _
   ·rw [if_neg hid];have h4:=q4 i
    have e1:(a.put o.dst undef).tmps.getD i undef = a.tmps.getD i undef:=by
     rw [hd];simp only [Act.put,Array.getD_eq_getD_getElem?,Array.getElem?_setIfInBounds];rw [if_neg (Ne.symm hid)]
    have e2:Eff.t ⟨rt,rh,some d,.tup [],Z,[]⟩ t' i = t' i:=by
     simp only [Eff.t,Eff.wT,Option.some.injEq];rw [if_neg (Ne.symm hid)];rfl
    rw [e1,e2] at h4;exact h4
  refine g2.forget (fun n hn=>?_) (fun i=>?_) (fun n=>?_)
  ·rcases hn with hn|hn
   ·exact hm n hn
   ·cases hn
  ·have key : ∀ l:List Nat,qm (l.map fun j=>(j,qm ts j)) i = if i ∈ l then qm ts i else .junk:=by
    intro l
    induction l with
    | nil=>rfl
    | cons m l ih =>
      show (if m = i then qm ts m else qm (l.map fun j=>(j,qm ts j)) i) = _;by_cases hmi:m = i
      ·subst hmi;simp
      ·rw [if_neg hmi,ih];simp [Ne.symm hmi]
   rw [key];by_cases hi:i ∈ kt
   ·rw [if_pos hi];left;have hid:¬ i = d:=fun e=>hkd (e ▸ hi)
    show qm ts i = (if i = d then AV.junk else t' i)
    rw [if_neg hid];exact (hrt i (List.mem_append_right _ (List.mem_append_right _ hi))).symm
   ·rw [if_neg hi];exact .inr rfl
  ·show qh _ n = _ ∨ qh _ n = _;unfold qh Eff.h Eff.wH;rw [ZF]
   cases hz:yb Z n with
   | some x=>exact .inl rfl
   | none =>
     have key : ∀ l:List Nat,yb (l.map fun n=>(n,(yb hs n).getD .dead)) n = if n ∈ l then some ((yb hs n).getD .dead) else none:=by
      intro l
      induction l with
      | nil=>rfl
      | cons m l ih =>
        show (if m = n then some ((yb hs m).getD .dead) else yb (l.map fun n=>(n,(yb hs n).getD .dead)) n) = _;by_cases hmn:m = n
        ·subst hmn;simp
        ·rw [if_neg hmn,ih];simp [Ne.symm hmn]
     show ((none:Option HB).or (yb (rh.map fun n=>(n,(yb hs n).getD .dead)) n)).getD .dead = _ ∨ _;rw [key];by_cases hn:n ∈ rh
     ·rw [if_pos hn];left;exact (hrh' n hn).symm
     ·rw [if_neg hn];exact .inr rfl
 refine k σ0 (hch.cons hOp ?_ ?_ rfl (by simp) (Nat.le_refl _)) hd'
 ·funext i;simp only [Eff.t,Eff.wT,Option.some.injEq,qm];split<;>rfl
 ·funext n;rfl
theorem QK {x:Operand} {it:TypeId} {u:Value} {d' : Option Tmp} {ty:TypeId} {pos:String} {af:Array Edge} {gg:Option (Nat × Bool)} (d:Nat) (rh:List Nat) (hx:evA (qm ts) x = .v (.iface it u))
  (hdie:C.die [{ v := .iface it u,recovered:=false }] [] (rh.map fun n=>(n,qh hs n)))
  (k:j9 C N all (⟨gd ++ qW x,rh,some d,xw,[],[]⟩ :: es) ⟨(d,xw) :: ts,hs,nx⟩ os K):jr C N all gd es ⟨ts,hs,nx⟩ ⟨d',.panic x,ty,pos,af,gg⟩ os K:=by
 intro hw σ0 hch hdr;obtain ⟨ho,hd'⟩:=Qf hdr;rw [Array.getElem?_toList] at ho
 have hOp:qbQ C.P (Zc C) all N es.length (qm ts) (qh hs) ⟨gd ++ qW x,rh,some d,xw,[],[]⟩:=by
  intro B A t' h' a w Q K' hBN hZ hAm g hrt hrh' hfr hK;unfold wpOp;simp only [ho]
  have hwant:Region.wanted (⟨d',.panic x,ty,pos,af,gg⟩ : Oper) (yielded all a.tmps) = true:=by
   obtain ⟨_,_,F,ρ,_,g4⟩:=g;exact hw F ρ a fun j hj=>(hrt j (List.mem_append_left _ hj)) ▸ g4 j
  rw [if_pos hwant];refine .inl ?_
  have hev:a.eval x = .iface it u:=by
   obtain ⟨_,_,F,ρ,_,g4⟩:=g;have h1:=qc (x:=x) (rt:=qW x) (t:=qm ts) (fun j hj=>(hrt j (List.mem_append_right _ hj)) ▸ g4 j) (fun j hj=>hj);rw [hx] at h1;exact h1.v_inv.1
  have hrun:(execOp a.eval (⟨d',.panic x,ty,pos,af,gg⟩ : Oper)).run C.P w = .halt (.panic (.iface it u)) w:=by
   have e0:execOp a.eval (⟨d',.panic x,ty,pos,af,gg⟩ : Oper) = (do pure (.value (← Instr.panic (a.eval x)))):=rfl;rw [e0,hev];rfl
  unfold Oper.wp;rw [hrun];obtain ⟨m,hm⟩:=hAm;refine hZ _ _ _ ⟨_,_,m,hdie,?_⟩;refine g.forget (fun n hn=>hm n hn) (fun i => .inr rfl) (fun n=>?_)
  have key : ∀ l:List Nat,yb (l.map fun n=>(n,qh hs n)) n = if n ∈ l then some (qh hs n) else none:=by
   intro l
   induction l with
   | nil=>rfl
   | cons m l ih =>
     show (if m = n then some (qh hs m) else yb (l.map fun n=>(n,qh hs n)) n) = _;by_cases hmn:m = n
     ·subst hmn;simp
     ·rw [if_neg hmn,ih];simp [Ne.symm hmn]
  have e:qh (rh.map fun n=>(n,qh hs n)) n = (if n ∈ rh then some (qh hs n) else none).getD .dead:=congrArg (fun o:Option HB=>o.getD .dead) (key rh);by_cases hn:n ∈ rh
  ·rw [if_pos hn] at e;exact .inl (e.trans (hrh' n hn).symm)
  ·rw [if_neg hn] at e;exact .inr e
 refine k σ0 (hch.cons hOp ?_ ?_ rfl (by simp) (Nat.le_refl _)) hd'
 ·funext i;simp only [Eff.t,Eff.wT,Option.some.injEq,qm];split<;>rfl
 ·funext n;rfl
theorem qG {d:Nat} (hv:qm ts d = xw) (hN:d < N) (k:j9 C N all (⟨[d],[],none,.junk,[],[]⟩ :: es) ⟨ts,hs,nx⟩ os K):j9 C N all es ⟨ts,hs,nx⟩ (o :: os) K:=by
 intro σ0 hch hdr;obtain ⟨ho,hd'⟩:=Qf hdr;refine k σ0 (hch.cons (E:=⟨[d],[],none,.junk,[],[]⟩) ?_ ?_ ?_ rfl (by simp) (Nat.le_refl _)) hd'
 ·intro B A t' h' a w Q K' hBN hZ hAm g hrt hrh' hfr hK;obtain ⟨_,_,F,ρ,_,g4⟩:=g;have:=g4 d;rw [hrt d (by simp)] at this;exact (X0 (hv ▸ this)).elim
 ·funext i;simp only [Eff.t,Eff.wT,reduceCtorEq,if_false,Option.getD_none]
 ·funext n;rfl
end steps
theorem KV {B:Base} {σ:St} {a:Act} {w:World} {d:Nat} (hv:qm σ.ts d = xw) (g:Gs B σ a w):False:=by
 obtain ⟨_,_,F,ρ,_,g4⟩:=g;exact X0 (hv ▸ g4 d)
theorem qE {C:Cx} {N:Nat} {c:Code} {Q:Exit → St → Prop} {σ:St} (d:Nat) (hv:qm σ.ts d = xw):Awp C N c Q σ:=fun B a w hN ⟨_,_,F,ρ,_,g4⟩=>(X0 (hv ▸ g4 d)).elim
@[reducible] def Cx.dying (C:Cx) (ch:List PanicEntry) (HP:List HB → Prop):Cx := { C with die:=fun c _ hs=>c = ch ∧ ∃ H',HP H' ∧ ∀ n,H'.getD n .dead = qh hs n ∨ H'.getD n .dead = .dead }
def qqu (ch:List PanicEntry) (HP:List HB → Prop):Exit → St → Prop
 | .panic c,σ=>c = ch ∧ ∃ H',HP H' ∧ ∀ n,H'.getD n .dead = qh σ.hs n ∨ H'.getD n .dead = .dead
 | .normal,σ | .ret,σ => ∃ d,qm σ.ts d = xw
 | _,_=>False
theorem qu {C:Cx} {f:FuncId} {fn:Func} {c:Code} {args:List AV} {H:List HB} {ch:List PanicEntry} {HP:List HB → Prop} (hf:C.P.funcs[f]? = some fn) (hb:fn.body = some c) (N:Nat) (hN:fn.ntmps = N) (hl:args.length ≤ N)
  (nh:Nat) (hH:H.length = nh) (hnh:C.nh = nh) (h:Awp (C.dying ch HP) N c (qqu ch HP) ⟨Qw 0 args,kW 0 H,nh⟩):vj C.P f args H ch HP:=by
 subst hH;intro B vs w hvs hBN g;obtain ⟨hρ0,hds,g'⟩:=XL (N:=N) hN hl hvs hBN g;refine calls_of_wp hf hb ?_;refine wp_mono (h { B with N:=N } _ w ⟨rfl,by rw [show (C.dying ch HP).nh = C.nh from rfl,hnh];exact hρ0⟩ g') ?_;intro e a' w' ⟨σ',q,g''⟩
 cases e with
 | normal=>obtain ⟨d,hd⟩:=q;exact (KV hd g'').elim
 | ret=>obtain ⟨d,hd⟩:=q;exact (KV hd g'').elim
 | exit _=>exact q.elim
 | goto _=>exact q.elim
 | panic c =>
   obtain ⟨rfl,H',hp,hh⟩:=q;refine ⟨g''.1.trans hds.symm,rfl,H',hp,?_⟩;obtain ⟨q1,q2,F,ρ,hp',q4⟩:=g''
   have g3:Ga { B with N:=1 } (· < σ'.nx) (one (.tup [])) (qh σ'.hs) ⟨#[undef],[]⟩ w':=⟨hds,rfl,F,ρ, { kept:=⟨hp'.kept.os,hp'.kept.tape,hp'.kept.output,hp'.kept.size,hp'.kept.block⟩,agree:=hp'.agree,grow:=hp'.grow,fresh:=hp'.fresh,names:=hp'.names,dom:=hp'.dom,own:=hp'.own,new:=hp'.new,sep:=hp'.sep },fun i=>by
    by_cases hi:i = 0
    ·subst hi;exact M.undef F ρ
    ·unfold one;rw [if_neg hi];exact .junk _ _⟩
   exact g3.forget (fun _ _=>trivial) (fun i => .inl rfl) hh
 | outgrown=>exact q.elim
end Go.Ab
