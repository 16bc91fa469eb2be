import Derived.Test.YtahbbnfmbohmmaaDoorMz5
import Derived.Test.YtahbbnfmbohmmaaDoorMz6
set_option linter.unusedSimpArgs false
set_option linter.unusedVariables false
namespace Go.Ab
open Go.RowKit
def vG (L:List (Nat × Nat)) (h:Nat → HB):List Nat → List HB → Prop
 | [],[]=>True
 | n :: ns,hb :: hbs=>((h n).isOwn = true ∧ y8 L 0 (h n) hb) ∧ vG L h ns hbs
 | _,_=>False
def zu (L:List (Nat × Nat)):List (Nat × HB) → List HB → Prop
 | [],_=>True
 | (n,hb) :: zs,hbs=>y8 L 0 (hbs.headD .dead) hb ∧ zu L zs hbs.tail
theorem vJ {L:List (Nat × Nat)} {h:Nat → HB} : ∀ {ns:List Nat} {H:List HB},vG L h ns H → ∀ (i:Nat) n hb,ns[i]? = some n → H[i]? = some hb → (h n).isOwn = true ∧ y8 L 0 (h n) hb
 | [],H,_,i,n,hb,hn,_=>by simp at hn
 | m :: ns,hb' :: H,hg,i,n,hb,hn,hh=>by
   cases i with
   | zero=>simp at hn hh;subst hn;subst hh;exact hg.1
   | succ i=>exact vJ hg.2 i n hb (by simpa using hn) (by simpa using hh)
 | m :: ns,[],hg,i,n,hb,hn,hh=>hg.elim
theorem JC {L:List (Nat × Nat)} : ∀ {Z:List (Nat × HB)} {H:List HB},zu L Z H → ∀ (i:Nat) n hb,Z[i]? = some (n,hb) → y8 L 0 (H.getD i .dead) hb
 | [],H,_,i,n,hb,hn=>by simp at hn
 | (m,hb') :: Z,H,hg,i,n,hb,hn=>by
   cases i with
   | zero =>
     simp at hn
     obtain ⟨rfl,rfl⟩:=hn
     have:=hg.1
     cases H with
     | nil=>exact this
     | cons x H=>exact this
   | succ i =>
     have:=JC hg.2 i n hb (by simpa using hn)
     cases H with
     | nil=>simpa using this
     | cons x H=>simpa using this
theorem yt {L:List (Nat × Nat)} {h:Nat → HB}:vG L h [] []:=trivial
theorem jA {L:List (Nat × Nat)} {h:Nat → HB} {n:Nat} {ns:List Nat} {hb:HB} {H:List HB} (hb0:HB) (hl:vG L h ns H) (hr:y8 L 0 hb0 hb) (hn:h n = hb0:=by rfl) (ho:hb0.isOwn = true:=by rfl):vG L h (n :: ns) (hb :: H):=⟨by rw [hn];exact ⟨ho,hr⟩,hl⟩
theorem ye {L:List (Nat × Nat)} {H:List HB}:zu L [] H:=trivial
theorem qV {L:List (Nat × Nat)} {n:Nat} {hb hb' : HB} {Z:List (Nat × HB)} {H:List HB} (hr:y8 L 0 hb' hb) (hl:zu L Z H):zu L ((n,hb) :: Z) (hb' :: H):=⟨hr,hl⟩
theorem yd {L:List (Nat × Nat)} {nh:Nat} {hb:HB}:y8 L nh hb .dead:=by cases hb<;>trivial
theorem yF {L:List (Nat × Nat)} {nh:Nat} {l:List (List UInt8 × AV)} (hp : ∀ e,e ∈ l → e.2.pure = true):y8 L nh (.mp (.map l)) (.mp (.map l)) :=
 ⟨l,.refl _,rfl,fun i x y h1 h2=>by
  rw [h1] at h2
  obtain rfl:=Option.some.inj h2
  exact ⟨rfl,qI (hp x (List.mem_of_getElem? h1))⟩⟩
theorem qX {L:List (Nat × Nat)} {nh:Nat} {ex ex' : Bool} {k:Nat} {row row' : List AV} (hr:qU L nh row row') (he:ex' = true → ex = true:=by first|exact id|exact nofun):y8 L nh (.own ex k [row]) (.own ex' k [row']):=⟨he,rfl,yD hr yR⟩
theorem wr : ∀ (Z hs:List (Nat × HB)) (n:Nat),jH (Z ++ hs) n = (jH Z n).or (jH hs n)
 | [],hs,n=>by simp [jH]
 | (m,x) :: Z,hs,n=>by
   rw [List.cons_append]
   simp only [jH]
   split
   ·rfl
   ·exact wr Z hs n
section calls
variable {C:Cx} {N d:Nat} {ty:TypeId} {pos:String} {af:Array Edge} {gd:Option (Nat × Bool)} {t:Nat → AV} {h:Nat → HB}
theorem Y9 {f:FuncId} {x:Operand} {first cap:List AV} {args:List Operand} {tys:Array TypeId} {ys:List AV} {H H' : List HB} {r r' : AV} (ns fr:List Nat) (Z:List (Nat × HB)) (hx:evA t x = .clo (.func f) first cap)
  (hf:IsFn C.P f) (hc:qt C.P f ys H r H') (hns:(Z.map (·.1)).take H.length = ns) (hfr:(Z.map (·.1)).drop H.length = fr) (hHZ:H.length ≤ Z.length) (hnd:(Z.map (·.1)).Nodup)
  (hz:qG (jE 0 ns) ns h (first ++ args.map (evA t) ++ cap) ys) (hg:vG (jE 0 ns) h ns H) (hb:zu (xw (jE 0 (Z.map (·.1)))) Z H') (hr:r.ren (xw (jE 0 (Z.map (·.1)))) = r') (hN:d < N) :
  qD C.P N ⟨some d,.call ⟨.value x,args.toArray,tys⟩,ty,pos,af,gd⟩ t h ⟨jp x ++ args.flatMap jp,ns,some d,r',Z,fr⟩ :=
 wZ (H:=H) (H':=H') (xs:=first ++ args.map (evA t) ++ cap) (ys:=ys) _ ns Z fr rfl hN (xn f hf x args tys first cap hx) hfr hHZ hnd (fun n hn=>by rw [hns] at hn;exact hn)
  (by rw [hns];exact hz) hc (fun i n hb1 hi hj=>by rw [hns] at hi ⊢;exact vJ hg i n hb1 hi hj) (fun i n hb1 hi=>JC hb i n hb1 hi) (hr ▸ V5 _ _ _)
end calls
section steps
variable {C:Cx} {N:Nat} {all:Array Oper} {es:List Eff} {o:Oper} {os:List Oper} {K:List Eff → St → Prop} {ts:List (Nat × AV)} {hs:List (Nat × HB)} {nx:Nat} {gd:List Nat}
theorem JP {rt rh fr:List Nat} {d:Nat} {x:AV} {Z:List (Nat × HB)} {nx' : Nat} (hE:qD C.P N o (qr ts) (qq hs) ⟨rt,rh,some d,x,Z,fr⟩) (hi:xi nx fr = true) (hn : ∀ n,n ∈ fr → n < nx') (hle:nx ≤ nx')
  (h:jU C N all (⟨gd ++ rt,rh,some d,x,Z,fr⟩ :: es) ⟨(d,x) :: ts,Z ++ hs,nx'⟩ os K):jl C N all gd es ⟨ts,hs,nx⟩ o os K:=by
 refine vO (τ:=⟨(d,x) :: ts,Z ++ hs,nx'⟩) hE ?_ ?_ hi hn hle h
 ·funext i;simp only [Eff.t,Eff.wT,Option.some.injEq,qr];split<;>rfl
 ·funext n
  show (jH Z n).getD (qq hs n) = qq (Z ++ hs) n
  unfold qq
  rw [wr]
  cases jH Z n<;>rfl
theorem xf {f:FuncId} {args:List Operand} {tys:Array TypeId} {d:Nat} {ty:TypeId} {pos:String} {af:Array Edge} {gg:Option (Nat × Bool)} {ys:List AV} {H H' : List HB} {r:AV} (ns fr:List Nat) (Z:List (Nat × HB)) (nx' : Nat) (r' : AV) (hf:IsFn C.P f) (hc:qt C.P f ys H r H')
  (hz:qG (jE 0 ns) ns (qq hs) (args.map (evA (qr ts))) ys) (hg:vG (jE 0 ns) (qq hs) ns H) (hb:zu (xw (jE 0 (Z.map (·.1)))) Z H')
  (k:jU C N all (⟨gd ++ (jp (.func f) ++ args.flatMap jp),ns,some d,r',Z,fr⟩ :: es) ⟨(d,r') :: ts,Z ++ hs,nx'⟩ os K)
  (hr:r.ren (xw (jE 0 (Z.map (·.1)))) = r':=by rfl) (hns:(Z.map (·.1)).take H.length = ns:=by rfl) (hfr:(Z.map (·.1)).drop H.length = fr:=by rfl) (hHZ:H.length ≤ Z.length:=by exact Nat.le_of_ble_eq_true rfl) (hnd:(Z.map (·.1)).Nodup:=by exact of_decide_eq_true rfl)
  (hi:xi nx fr = true:=by rfl) (hn : ∀ n,n ∈ fr → n < nx':=by exact of_decide_eq_true rfl) (hle:nx ≤ nx':=by exact Nat.le_of_ble_eq_true rfl) (hN:d < N:=by exact nle rfl):vw C N all gd es ⟨ts,hs,nx⟩ f args d tys ty pos af gg os K :=
 JP (Y9 ns fr Z (x := .func f) (first:=[]) (cap:=[]) rfl hf hc hns hfr hHZ hnd (by rw [List.nil_append,List.append_nil];exact hz) hg hb hr hN) hi hn hle k
theorem zG {f:FuncId} {fn:Func} {x:Operand} {first cap:List AV} {args:List Operand} {tys:Array TypeId} {d:Nat} {ty:TypeId} {pos:String} {af:Array Edge} {gg:Option (Nat × Bool)} {ys:List AV} {H H' : List HB} {r:AV} (ns fr:List Nat) (Z:List (Nat × HB)) (nx' : Nat) (r' : AV) (hf:C.P.funcs[f]? = some fn) (hc:qt C.P f ys H r H')
  (hz:qG (jE 0 ns) ns (qq hs) (first ++ args.map (evA (qr ts)) ++ cap) ys) (hg:vG (jE 0 ns) (qq hs) ns H) (hb:zu (xw (jE 0 (Z.map (·.1)))) Z H')
  (k:jU C N all (⟨gd ++ (jp x ++ args.flatMap jp),ns,some d,r',Z,fr⟩ :: es) ⟨(d,r') :: ts,Z ++ hs,nx'⟩ os K) (hx:evA (qr ts) x = .clo (.func f) first cap:=by rfl) (hb0:fn.body.isNone = false:=by rfl) (hn0:(fn.name == "runtime.NumGoroutine") = false:=by rfl)
  (hr:r.ren (xw (jE 0 (Z.map (·.1)))) = r':=by rfl) (hns:(Z.map (·.1)).take H.length = ns:=by rfl) (hfr:(Z.map (·.1)).drop H.length = fr:=by rfl) (hHZ:H.length ≤ Z.length:=by exact Nat.le_of_ble_eq_true rfl) (hnd:(Z.map (·.1)).Nodup:=by exact of_decide_eq_true rfl)
  (hi:xi nx fr = true:=by rfl) (hn : ∀ n,n ∈ fr → n < nx':=by exact of_decide_eq_true rfl) (hle:nx ≤ nx':=by exact Nat.le_of_ble_eq_true rfl) (hN:d < N:=by exact nle rfl):jl C N all gd es ⟨ts,hs,nx⟩ ⟨some d,.call ⟨.value x,args.toArray,tys⟩,ty,pos,af,gg⟩ os K :=
 JP (Y9 ns fr Z hx (qM hf hb0 hn0) hc hns hfr hHZ hnd hz hg hb hr hN) hi hn hle k
end steps
theorem zh {L:List (Nat × Nat)} {nh:Nat} {σ:St} {n' : Nat} {l:List (Nat × HB)} (hl:jZ L nh σ l) (hm:Maps L nh n' n':=by exact yj rfl):jZ L nh σ ((n',.dead) :: l):=ZH n' hm hl
theorem Xu {C:Cx} {ts:List (Nat × AV)} {hs:List (Nat × HB)} {nx:Nat} (m j k:Nat) {ex:Bool} {kk:Nat} {row:List AV} (hm:qq hs m = .own ex kk [row]) (hj:row[j]? = some (.sl true [])) (hnx:C.nh ≤ nx) (hmx:m < nx):Red C ⟨ts,hs,nx⟩ ⟨ts,(m,.own ex kk [row.set j (.os nx 0 0)]) :: (nx,.own true k []) :: hs,nx + 1⟩:=by
 intro B a w hB ⟨g1,g2,F,ρ,hp,g4⟩
 let ρ' : Places:=fun n=>if n = nx then some none else ρ n
 have hnone:ρ nx = none:=by
  cases h:ρ nx with
  | none=>rfl
  | some c=>exact absurd (hp.dom nx (by rw [h];simp)) (Nat.lt_irrefl _)
 have hle:ρ.le ρ':=fun n c hn=>by
  simp only [ρ']
  by_cases e:n = nx
  ·subst e;rw [hnone] at hn;cases hn
  ·rw [if_neg e];exact hn
 have hget : ∀ n,qq ((m,HB.own ex kk [row.set j (.os nx 0 0)]) :: (nx,.own true k []) :: hs) n = if m = n then HB.own ex kk [row.set j (.os nx 0 0)] else if nx = n then .own true k [] else qq hs n:=fun n=>by
  rw [xo,xo]
 refine ⟨g1,g2,F,ρ',?_,fun i=>(g4 i).mono (Still.le_refl _) hle⟩
 refine { kept:=hp.kept,agree:=hp.agree,grow:=hp.grow,fresh:=hp.fresh,names:=fun n c hn=>hle n c (hp.names n c hn),dom:=fun n hn=>?_,own:=fun n=>?_,new:=fun n b c ho hn=>?_,sep:=fun n q b c c' hne ho ho' hn hn'=>?_ }
 ·simp only [ρ'] at hn
  show n < nx + 1
  by_cases e:n = nx
  ·omega
  ·rw [if_neg e] at hn;have:n < nx:=hp.dom n hn;omega
 ·show OwnAt F ρ' w n (qq _ n)
  rw [hget]
  by_cases e:m = n
  ·rw [if_pos e]
   subst e
   have h0:OwnAt F ρ w m (qq hs m):=hp.own m
   rw [hm] at h0
   rcases h0 with ⟨_,h2⟩|⟨b,cap,c,e',h1,h2,h3,h4,h5,h6⟩
   ·cases h2
   ·refine .inr ⟨b,cap,c,e',hle _ _ h1,h2,h3,h4,h5,fun r hr=>?_,fun i i' r x v hi hx hv=>?_⟩
    ·rw [List.mem_singleton.1 hr,List.length_set]
     exact h6.1 row (by simp)
    ·cases i with
     | succ i=>simp at hi
     | zero =>
       simp at hi
       subst hi
       rw [List.getElem?_set] at hx
       split at hx
       ·rename_i ej
        subst ej
        split at hx
        ·injection hx with hx
         subst hx
         have hv':=h6.2 0 j row _ v rfl hj hv
         have hn' : ρ' nx = some none:=by simp [ρ']
         cases hv' with
         | sl0 _ a cap ex he hn =>
           rw [he rfl];exact .osn _ nx a hn'
         | sl _ b off cap c e fr ex k rows hb hc he hs hk h =>
           have:cap = 0:=he rfl
           subst this
           exact .osn _ nx _ hn'
        ·cases hx
       ·exact (h6.2 0 i' row x v rfl hx hv).mono (Still.le_refl _) hle
  ·rw [if_neg e]
   by_cases e2:nx = n
   ·rw [if_pos e2];subst e2;exact .inl ⟨by simp [ρ'],rfl⟩
   ·rw [if_neg e2]
    have h0:OwnAt F ρ w n (qq hs n):=hp.own n
    cases e1:qq hs n with
    | dead=>trivial
    | fz rows' =>
      rw [e1] at h0
      rcases h0 with ⟨h1,h2⟩|⟨b,k',cap,c,e',fr,h1,h2,h3⟩
      ·exact .inl ⟨hle _ _ h1,h2⟩
      ·exact .inr ⟨b,k',cap,c,e',fr,hle _ _ h1,h2,h3⟩
    | mp l =>
      rw [e1] at h0
      obtain ⟨b,es,clock,h1,h2,h3⟩:=h0
      exact ⟨b,es,clock,hle _ _ h1,h2,h3.mono (Still.le_refl _) hle⟩
    | own ex' k' rows' =>
      rw [e1] at h0
      rcases h0 with ⟨h1,h2⟩|⟨b,cap,c,e',h1,h2,h3,h4,h5,h6⟩
      ·exact .inl ⟨hle _ _ h1,h2⟩
      ·exact .inr ⟨b,cap,c,e',hle _ _ h1,h2,h3,h4,h5,h6.mono (Still.le_refl _) hle⟩
 ·have ho:(qq ((m,HB.own ex kk [row.set j (.os nx 0 0)]) :: (nx,.own true k []) :: hs) n).isOwn = true:=ho
  rw [hget] at ho
  simp only [ρ'] at hn
  by_cases e:n = nx
  ·rw [if_pos e] at hn;cases hn
  ·rw [if_neg e] at hn
   refine hp.new n b c ?_ hn
   by_cases e2:m = n
   ·show (qq hs n).isOwn = true
    rw [← e2,hm];rfl
   ·rw [if_neg e2,if_neg (fun h=>e h.symm)] at ho;exact ho
 ·have ho:(qq ((m,HB.own ex kk [row.set j (.os nx 0 0)]) :: (nx,.own true k []) :: hs) n).isOwn = true:=ho
  have ho' : (qq ((m,HB.own ex kk [row.set j (.os nx 0 0)]) :: (nx,.own true k []) :: hs) q).isOwn = true:=ho'
  rw [hget] at ho ho'
  simp only [ρ'] at hn hn'
  by_cases e:n = nx
  ·rw [if_pos e] at hn;cases hn
  ·by_cases f:q = nx
   ·rw [if_pos f] at hn';cases hn'
   ·rw [if_neg e] at hn
    rw [if_neg f] at hn'
    refine hp.sep n q b c c' hne ?_ ?_ hn hn'
    ·by_cases e2:m = n
     ·show (qq hs n).isOwn = true
      rw [← e2,hm];rfl
     ·rw [if_neg e2,if_neg (fun h=>e h.symm)] at ho;exact ho
    ·by_cases e2:m = q
     ·show (qq hs q).isOwn = true
      rw [← e2,hm];rfl
     ·rw [if_neg e2,if_neg (fun h=>f h.symm)] at ho';exact ho'
end Go.Ab
set_option linter.unusedSimpArgs false
set_option linter.unusedVariables false
namespace Go.Ab
open Go.RowKit
theorem Ga.forget {B:Base} {A A' : Nat → Prop} {t t' : Nat → AV} {h h' : Nat → HB} {a:Act} {w:World} (g:Ga B A t h a w) (hA : ∀ n,A n → A' n) (ht : ∀ i,t' i = t i ∨ t' i = .junk) (hh : ∀ n,h' n = h n ∨ h' n = .dead):Ga B A' t' h' a w:=by
 obtain ⟨g1,g2,F,ρ,hp,g4⟩:=g
 have hown : ∀ n,(h' n).isOwn = true → h' n = h n:=fun n ho=>by
  rcases hh n with e|e
  ·exact e
  ·rw [e] at ho;cases ho
 refine ⟨g1,g2,F,ρ, { hp with dom:=fun n hn=>hA n (hp.dom n hn),own:=fun n=>?_,new:=fun n b c ho hn=>hp.new n b c (hown n ho ▸ ho) hn,sep:=fun n m b c c' hne ho ho' hn hn'=>hp.sep n m b c c' hne (hown n ho ▸ ho) (hown m ho' ▸ ho') hn hn' },fun i=>?_⟩
 ·rcases hh n with e|e
  ·rw [e];exact hp.own n
  ·rw [e];trivial
 ·rcases ht i with e|e
  ·rw [e];exact g4 i
  ·rw [e];exact .junk _ _
theorem Z7 {P:Program} {o:Oper} {a:Act} {w w1:World} {f:FuncId} {vs:Array Value} {K:Act → World → Prop} {Q:Exit → Act → World → Prop} (he:(execOp a.eval o).run P w = .ok (.enter f vs) w1) {R:Ending → World → Prop} (hc:Calls P f vs w1 R)
  (hk : ∀ e w',R e w' → ∃ ch,e = .panicked ch ∧ Q (.panic ch) a w'):o.wp P a w K Q:=by
 unfold Oper.wp
 rw [he,Oper.upon_enter]
 refine hc.mono fun e w' hr=>?_
 obtain ⟨ch,rfl,hk'⟩:=hk e w' hr
 exact hk'
section steps
variable {C:Cx} {N:Nat} {all:Array Oper} {es:List Eff} {o:Oper} {os:List Oper} {K:List Eff → St → Prop} {ts:List (Nat × AV)} {hs:List (Nat × HB)} {nx:Nat} {gd:List Nat}
theorem Q8 {f:FuncId} {xs ys:List AV} {H:List HB} {ch:List PanicEntry} {HP:List HB → Prop} {d:Nat} (rt rh L kt:List Nat) (hd:o.dst = some d) (hN:d < N) (he:qJ C.P o (qr ts) rt f xs)
  (hHZ:H.length = L.length) (hnd:L.Nodup) (hrh : ∀ n,n ∈ L.take H.length → n ∈ rh) (hargs:qG (jE 0 (L.take H.length)) rh (qq hs) xs ys)
  (hH : ∀ (i:Nat) n hb,(L.take H.length)[i]? = some n → H[i]? = some hb → ((qq hs) n).isOwn = true ∧ y8 (jE 0 (L.take H.length)) 0 ((qq hs) n) hb) (hc:yJ C.P f ys H ch HP)
  (hdie : ∀ H',HP H' → ∃ Z:List (Nat × HB),Z.map (·.1) = L ∧ (∀ (i:Nat) n hb,Z[i]? = some (n,hb) → y8 (xw (jE 0 L)) 0 (H'.getD i .dead) hb) ∧ C.die ch (kt.map fun j=>(j,qr ts j)) (Z ++ rh.map fun n=>(n,qq hs n))) (hkd:d ∉ kt)
  (k:jU C N all (⟨gd ++ (rt ++ kt),rh,some d,yn,[],[]⟩ :: es) ⟨(d,yn) :: ts,hs,nx⟩ os K):jl C N all gd es ⟨ts,hs,nx⟩ o os K:=by
 intro hw σ0 hch hdr
 obtain ⟨ho,hd'⟩:=x8 hdr
 rw [Array.getElem?_toList] at ho
 have hOp:JY C.P (Zc C) all N es.length (qr ts) (qq hs) ⟨gd ++ (rt ++ kt),rh,some d,yn,[],[]⟩:=by
  intro B A t' h' a w Q K' hBN hZ hAm g hrt hrh' hfr hK
  unfold wpOp
  simp only [ho]
  have hwant:Region.wanted o (yielded all a.tmps) = true:=by
   obtain ⟨_,_,F,ρ,_,g4⟩:=g
   exact hw F ρ a fun j hj=>(hrt j (List.mem_append_left _ hj)) ▸ g4 j
  rw [if_pos hwant]
  refine .inl ?_
  obtain ⟨vs,B',hrun,e1,e2,hGa,hend⟩:=YZ (C:=C) (N:=N) (h:=qq hs) rt rh L [] hd hN he (by rw [hHZ,List.drop_length]) (by omega) hnd hrh hargs hH B A t' h' a w hBN g (fun j hj=>hrt j (List.mem_append_right _ (List.mem_append_left _ hj))) hrh' (fun n hn=>by cases hn)
  refine Z7 hrun (hc B' vs w e1 e2 hGa) ?_
  rintro e w' ⟨rfl,H',hp,hg⟩
  refine ⟨ch,rfl,hZ _ _ _ ?_⟩
  obtain ⟨Z,hZL,hren,hC⟩:=hdie H' hp
  have g':=hend undef w' (.tup []) (.tup []) H' Z hZL hren (V5 _ _ _) hg
  obtain ⟨m,hm⟩:=hAm
  refine ⟨_,_,m,hC,?_⟩
  obtain ⟨q1,q2,q3⟩:=g'
  have g2:Ga B (fun n=>A n ∨ n ∈ ([]:List Nat)) (fun i=>if i = d then .junk else t' i) (Eff.h ⟨rt,rh,some d,.tup [],Z,[]⟩ h') a w':=by
   obtain ⟨F,ρ,hp',q4⟩:=q3
   refine ⟨by simpa [Act.put,hd] using q1,by rw [xd] at q2;exact q2,F,ρ,hp',fun i=>?_⟩
   show M F ρ _ (if i = d then AV.junk else t' i)
   by_cases hid:i = d
   ·rw [if_pos hid];exact .junk _ _
   ·rw [if_neg hid]
    have h4:=q4 i
    have e1:(a.put o.dst undef).tmps.getD i undef = a.tmps.getD i undef:=by
     rw [hd]
     simp only [Act.put,Array.getD_eq_getD_getElem?,Array.getElem?_setIfInBounds]
     rw [if_neg (Ne.symm hid)]
    have e2:Eff.t ⟨rt,rh,some d,.tup [],Z,[]⟩ t' i = t' i:=by
     simp only [Eff.t,Eff.wT,Option.some.injEq]
     rw [if_neg (Ne.symm hid)]
     rfl
    rw [e1,e2] at h4
    exact h4
  refine g2.forget (fun n hn=>?_) (fun i=>?_) (fun n=>?_)
  ·rcases hn with hn|hn
   ·exact hm n hn
   ·cases hn
  ·have key : ∀ l:List Nat,qr (l.map fun j=>(j,qr ts j)) i = if i ∈ l then qr ts i else .junk:=by
    intro l
    induction l with
    | nil=>rfl
    | cons m l ih =>
      show (if m = i then qr ts m else qr (l.map fun j=>(j,qr ts j)) i) = _
      by_cases hmi:m = i
      ·subst hmi;simp
      ·rw [if_neg hmi,ih];simp [Ne.symm hmi]
   rw [key]
   by_cases hi:i ∈ kt
   ·rw [if_pos hi]
    left
    have hid:¬ i = d:=fun e=>hkd (e ▸ hi)
    show qr ts i = (if i = d then AV.junk else t' i)
    rw [if_neg hid]
    exact (hrt i (List.mem_append_right _ (List.mem_append_right _ hi))).symm
   ·rw [if_neg hi];exact .inr rfl
  ·show qq _ n = _ ∨ qq _ n = _
   unfold qq Eff.h Eff.wH
   rw [wr]
   cases hz:jH Z n with
   | some x=>exact .inl rfl
   | none =>
     have key : ∀ l:List Nat,jH (l.map fun n=>(n,(jH hs n).getD .dead)) n = if n ∈ l then some ((jH hs n).getD .dead) else none:=by
      intro l
      induction l with
      | nil=>rfl
      | cons m l ih =>
        show (if m = n then some ((jH hs m).getD .dead) else jH (l.map fun n=>(n,(jH hs n).getD .dead)) n) = _
        by_cases hmn:m = n
        ·subst hmn;simp
        ·rw [if_neg hmn,ih];simp [Ne.symm hmn]
     show ((none:Option HB).or (jH (rh.map fun n=>(n,(jH hs n).getD .dead)) n)).getD .dead = _ ∨ _
     rw [key]
     by_cases hn:n ∈ rh
     ·rw [if_pos hn]
      left
      exact (hrh' n hn).symm
     ·rw [if_neg hn];exact .inr rfl
 refine k σ0 (hch.cons hOp ?_ ?_ rfl (by simp) (Nat.le_refl _)) hd'
 ·funext i;simp only [Eff.t,Eff.wT,Option.some.injEq,qr];split<;>rfl
 ·funext n;rfl
theorem vp {x:Operand} {it:TypeId} {u:Value} {d' : Option Tmp} {ty:TypeId} {pos:String} {af:Array Edge} {gg:Option (Nat × Bool)} (d:Nat) (rh:List Nat) (hx:evA (qr ts) x = .v (.iface it u))
  (hdie:C.die [{ v := .iface it u,recovered:=false }] [] (rh.map fun n=>(n,qq hs n)))
  (k:jU C N all (⟨gd ++ jp x,rh,some d,yn,[],[]⟩ :: es) ⟨(d,yn) :: ts,hs,nx⟩ os K):jl C N all gd es ⟨ts,hs,nx⟩ ⟨d',.panic x,ty,pos,af,gg⟩ os K:=by
 intro hw σ0 hch hdr
 obtain ⟨ho,hd'⟩:=x8 hdr
 rw [Array.getElem?_toList] at ho
 have hOp:JY C.P (Zc C) all N es.length (qr ts) (qq hs) ⟨gd ++ jp x,rh,some d,yn,[],[]⟩:=by
  intro B A t' h' a w Q K' hBN hZ hAm g hrt hrh' hfr hK
  unfold wpOp
  simp only [ho]
  have hwant:Region.wanted (⟨d',.panic x,ty,pos,af,gg⟩ : Oper) (yielded all a.tmps) = true:=by
   obtain ⟨_,_,F,ρ,_,g4⟩:=g
   exact hw F ρ a fun j hj=>(hrt j (List.mem_append_left _ hj)) ▸ g4 j
  rw [if_pos hwant]
  refine .inl ?_
  have hev:a.eval x = .iface it u:=by
   obtain ⟨_,_,F,ρ,_,g4⟩:=g
   have h1:=qk (x:=x) (rt:=jp x) (t:=qr ts) (fun j hj=>(hrt j (List.mem_append_right _ hj)) ▸ g4 j) (fun j hj=>hj)
   rw [hx] at h1
   exact h1.v_inv.1
  have hrun:(execOp a.eval (⟨d',.panic x,ty,pos,af,gg⟩ : Oper)).run C.P w = .halt (.panic (.iface it u)) w:=by
   have e0:execOp a.eval (⟨d',.panic x,ty,pos,af,gg⟩ : Oper) = (do pure (.value (← Instr.panic (a.eval x)))):=rfl
   rw [e0,hev];rfl
  unfold Oper.wp
  rw [hrun]
  obtain ⟨m,hm⟩:=hAm
  refine hZ _ _ _ ⟨_,_,m,hdie,?_⟩
  refine g.forget (fun n hn=>hm n hn) (fun i => .inr rfl) (fun n=>?_)
  have key : ∀ l:List Nat,jH (l.map fun n=>(n,qq hs n)) n = if n ∈ l then some (qq hs n) else none:=by
   intro l
   induction l with
   | nil=>rfl
   | cons m l ih =>
     show (if m = n then some (qq hs m) else jH (l.map fun n=>(n,qq hs n)) n) = _
     by_cases hmn:m = n
     ·subst hmn;simp
     ·rw [if_neg hmn,ih];simp [Ne.symm hmn]
  have e:qq (rh.map fun n=>(n,qq hs n)) n = (if n ∈ rh then some (qq hs n) else none).getD .dead:=congrArg (fun o:Option HB=>o.getD .dead) (key rh)
  by_cases hn:n ∈ rh
  ·rw [if_pos hn] at e;exact .inl (e.trans (hrh' n hn).symm)
  ·rw [if_neg hn] at e;exact .inr e
 refine k σ0 (hch.cons hOp ?_ ?_ rfl (by simp) (Nat.le_refl _)) hd'
 ·funext i;simp only [Eff.t,Eff.wT,Option.some.injEq,qr];split<;>rfl
 ·funext n;rfl
theorem qC {d:Nat} (hv:qr ts d = yn) (hN:d < N) (k:jU C N all (⟨[d],[],none,.junk,[],[]⟩ :: es) ⟨ts,hs,nx⟩ os K):jU C N all es ⟨ts,hs,nx⟩ (o :: os) K:=by
 intro σ0 hch hdr
 obtain ⟨ho,hd'⟩:=x8 hdr
 refine k σ0 (hch.cons (E:=⟨[d],[],none,.junk,[],[]⟩) ?_ ?_ ?_ rfl (by simp) (Nat.le_refl _)) hd'
 ·intro B A t' h' a w Q K' hBN hZ hAm g hrt hrh' hfr hK
  obtain ⟨_,_,F,ρ,_,g4⟩:=g
  have:=g4 d
  rw [hrt d (by simp)] at this
  exact (kA (hv ▸ this)).elim
 ·funext i;simp only [Eff.t,Eff.wT,reduceCtorEq,if_false,Option.getD_none]
 ·funext n;rfl
end steps
theorem Qg {B:Base} {σ:St} {a:Act} {w:World} {d:Nat} (hv:qr σ.ts d = yn) (g:Gs B σ a w):False:=by
 obtain ⟨_,_,F,ρ,_,g4⟩:=g
 exact kA (hv ▸ g4 d)
theorem qB {C:Cx} {N:Nat} {c:Code} {Q:Exit → St → Prop} {σ:St} (d:Nat) (hv:qr σ.ts d = yn):Awp C N c Q σ:=fun B a w hN ⟨_,_,F,ρ,_,g4⟩=>(kA (hv ▸ g4 d)).elim
@[reducible] def Cx.dying (C:Cx) (ch:List PanicEntry) (HP:List HB → Prop):Cx := { C with die:=fun c _ hs=>c = ch ∧ ∃ H',HP H' ∧ ∀ n,H'.getD n .dead = qq hs n ∨ H'.getD n .dead = .dead }
def qbN (ch:List PanicEntry) (HP:List HB → Prop):Exit → St → Prop
 | .panic c,σ=>c = ch ∧ ∃ H',HP H' ∧ ∀ n,H'.getD n .dead = qq σ.hs n ∨ H'.getD n .dead = .dead
 | .normal,σ | .ret,σ => ∃ d,qr σ.ts d = yn
 | _,_=>False
theorem qw {C:Cx} {f:FuncId} {fn:Func} {c:Code} {args:List AV} {H:List HB} {ch:List PanicEntry} {HP:List HB → Prop} (hf:C.P.funcs[f]? = some fn) (hb:fn.body = some c) (N:Nat) (hN:fn.ntmps = N) (hl:args.length ≤ N)
  (nh:Nat) (hH:H.length = nh) (hnh:C.nh = nh) (h:Awp (C.dying ch HP) N c (qbN ch HP) ⟨qL 0 args,xX 0 H,nh⟩):yJ C.P f args H ch HP:=by
 subst hH
 intro B vs w hvs hBN g
 obtain ⟨hρ0,hds,g'⟩:=kq (N:=N) hN hl hvs hBN g
 refine calls_of_wp hf hb ?_
 refine wp_mono (h { B with N:=N } _ w ⟨rfl,by rw [show (C.dying ch HP).nh = C.nh from rfl,hnh];exact hρ0⟩ g') ?_
 intro e a' w' ⟨σ',q,g''⟩
 cases e with
 | normal=>obtain ⟨d,hd⟩:=q;exact (Qg hd g'').elim
 | ret=>obtain ⟨d,hd⟩:=q;exact (Qg hd g'').elim
 | exit _=>exact q.elim
 | goto _=>exact q.elim
 | panic c =>
   obtain ⟨rfl,H',hp,hh⟩:=q
   refine ⟨g''.1.trans hds.symm,rfl,H',hp,?_⟩
   obtain ⟨q1,q2,F,ρ,hp',q4⟩:=g''
   have g3:Ga { B with N:=1 } (· < σ'.nx) (one (.tup [])) (qq σ'.hs) ⟨#[undef],[]⟩ w':=⟨hds,rfl,F,ρ, { kept:=⟨hp'.kept.os,hp'.kept.tape,hp'.kept.output,hp'.kept.size,hp'.kept.block⟩,agree:=hp'.agree,grow:=hp'.grow,fresh:=hp'.fresh,names:=hp'.names,dom:=hp'.dom,own:=hp'.own,new:=hp'.new,sep:=hp'.sep },fun i=>by
    by_cases hi:i = 0
    ·subst hi;exact M.undef F ρ
    ·unfold one;rw [if_neg hi];exact .junk _ _⟩
   exact g3.forget (fun _ _=>trivial) (fun i => .inl rfl) hh
 | outgrown=>exact q.elim
end Go.Ab
