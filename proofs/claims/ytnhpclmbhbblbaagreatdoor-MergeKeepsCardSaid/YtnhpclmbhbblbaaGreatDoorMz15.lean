import Derived.Test.YtnhpclmbhbblbaaGreatDoorMz5
import Derived.Test.YtnhpclmbhbblbaaGreatDoorMz3
set_option linter.unusedSimpArgs false
set_option linter.unusedVariables false
namespace Go.Ab
open Go.RowKit
def JA (L:List (Nat × Nat)) (h:Nat → HB):List Nat → List HB → Prop
 | [],[]=>True
 | n :: ns,hb :: hbs=>((h n).isOwn = true ∧ yQ L 0 (h n) hb) ∧ JA L h ns hbs
 | _,_=>False
def Jy (L:List (Nat × Nat)):List (Nat × HB) → List HB → Prop
 | [],_=>True
 | (n,hb) :: zs,hbs=>yQ L 0 (hbs.headD .dead) hb ∧ Jy L zs hbs.tail
theorem YT {L:List (Nat × Nat)} {h:Nat → HB} : ∀ {ns:List Nat} {H:List HB},JA L h ns H → ∀ (i:Nat) n hb,ns[i]? = some n → H[i]? = some hb → (h n).isOwn = true ∧ yQ L 0 (h n) hb
 | [],H,_,i,n,hb,hn,_=>by simp at hn
 | m :: ns,hb' :: H,hg,i,n,hb,hn,hh=>by
   cases i with
   | zero=>simp at hn hh;subst hn;subst hh;exact hg.1
   | succ i=>exact YT hg.2 i n hb (by simpa using hn) (by simpa using hh)
 | m :: ns,[],hg,i,n,hb,hn,hh=>hg.elim
theorem YL {L:List (Nat × Nat)} : ∀ {Z:List (Nat × HB)} {H:List HB},Jy L Z H → ∀ (i:Nat) n hb,Z[i]? = some (n,hb) → yQ L 0 (H.getD i .dead) hb
 | [],H,_,i,n,hb,hn=>by simp at hn
 | (m,hb') :: Z,H,hg,i,n,hb,hn=>by
   cases i with
   | zero =>
     simp at hn
     obtain ⟨rfl,rfl⟩:=hn
     have:=hg.1
     cases H with
     | nil=>exact this
     | cons x H=>exact this
   | succ i =>
     have:=YL hg.2 i n hb (by simpa using hn)
     cases H with
     | nil=>simpa using this
     | cons x H=>simpa using this
theorem qW {L:List (Nat × Nat)} {h:Nat → HB}:JA L h [] []:=trivial
theorem qL {L:List (Nat × Nat)} {h:Nat → HB} {n:Nat} {ns:List Nat} {hb:HB} {H:List HB} (hb0:HB) (hl:JA L h ns H) (hr:yQ L 0 hb0 hb) (hn:h n = hb0:=by rfl) (ho:hb0.isOwn = true:=by rfl):JA L h (n :: ns) (hb :: H):=⟨by rw [hn];exact ⟨ho,hr⟩,hl⟩
theorem qV {L:List (Nat × Nat)} {H:List HB}:Jy L [] H:=trivial
theorem qK {L:List (Nat × Nat)} {n:Nat} {hb hb' : HB} {Z:List (Nat × HB)} {H:List HB} (hr:yQ L 0 hb' hb) (hl:Jy L Z H):Jy L ((n,hb) :: Z) (hb' :: H):=⟨hr,hl⟩
theorem qF {L:List (Nat × Nat)} {nh:Nat} {hb:HB}:yQ L nh hb .dead:=by cases hb<;>trivial
theorem qe {L:List (Nat × Nat)} {nh:Nat} {l:List (List UInt8 × AV)} (hp : ∀ e,e ∈ l → e.2.pure = true):yQ L nh (.mp (.map l)) (.mp (.map l)) :=
 ⟨l,.refl _,rfl,fun i x y h1 h2=>by
  rw [h1] at h2
  obtain rfl:=Option.some.inj h2
  exact ⟨rfl,ql (hp x (List.mem_of_getElem? h1))⟩⟩
theorem qM {L:List (Nat × Nat)} {nh:Nat} {ex ex' : Bool} {k:Nat} {row row' : List AV} (hr:jq L nh row row') (he:ex' = true → ex = true:=by first|exact id|exact nofun):yQ L nh (.own ex k [row]) (.own ex' k [row']):=⟨he,rfl,yU hr x3⟩
theorem YR : ∀ (Z hs:List (Nat × HB)) (n:Nat),yn (Z ++ hs) n = (yn Z n).or (yn hs n)
 | [],hs,n=>by simp [yn]
 | (m,x) :: Z,hs,n=>by
   rw [List.cons_append]
   simp only [yn]
   split
   ·rfl
   ·exact YR Z hs n
section calls
variable {C:Cx} {N d:Nat} {ty:TypeId} {pos:String} {af:Array Edge} {gd:Option (Nat × Bool)} {t:Nat → AV} {h:Nat → HB}
theorem Wu {f:FuncId} {x:Operand} {first cap:List AV} {args:List Operand} {tys:Array TypeId} {ys:List AV} {H H' : List HB} {r r' : AV} (ns fr:List Nat) (Z:List (Nat × HB)) (hx:evA t x = .clo (.func f) first cap)
  (hf:IsFn C.P f) (hc:qI C.P f ys H r H') (hns:(Z.map (·.1)).take H.length = ns) (hfr:(Z.map (·.1)).drop H.length = fr) (hHZ:H.length ≤ Z.length) (hnd:(Z.map (·.1)).Nodup)
  (hz:jg (zd 0 ns) ns h (first ++ args.map (evA t) ++ cap) ys) (hg:JA (zd 0 ns) h ns H) (hb:Jy (Xm (zd 0 (Z.map (·.1)))) Z H') (hr:r.ren (Xm (zd 0 (Z.map (·.1)))) = r') (hN:d < N) :
  qD C.P N ⟨some d,.call ⟨.value x,args.toArray,tys⟩,ty,pos,af,gd⟩ t h ⟨jC x ++ args.flatMap jC,ns,some d,r',Z,fr⟩ :=
 vu (H:=H) (H':=H') (xs:=first ++ args.map (evA t) ++ cap) (ys:=ys) _ ns Z fr rfl hN (xF f hf x args tys first cap hx) hfr hHZ hnd (fun n hn=>by rw [hns] at hn;exact hn)
  (by rw [hns];exact hz) hc (fun i n hb1 hi hj=>by rw [hns] at hi ⊢;exact YT hg i n hb1 hi hj) (fun i n hb1 hi=>YL hb i n hb1 hi) (hr ▸ Ju _ _ _)
end calls
section steps
variable {C:Cx} {N:Nat} {all:Array Oper} {es:List Eff} {o:Oper} {os:List Oper} {K:List Eff → St → Prop} {ts:List (Nat × AV)} {hs:List (Nat × HB)} {nx:Nat} {gd:List Nat}
theorem KK {rt rh fr:List Nat} {d:Nat} {x:AV} {Z:List (Nat × HB)} {nx' : Nat} (hE:qD C.P N o (qr ts) (qB hs) ⟨rt,rh,some d,x,Z,fr⟩) (hi:vx nx fr = true) (hn : ∀ n,n ∈ fr → n < nx') (hle:nx ≤ nx')
  (h:jW C N all (⟨gd ++ rt,rh,some d,x,Z,fr⟩ :: es) ⟨(d,x) :: ts,Z ++ hs,nx'⟩ os K):jh C N all gd es ⟨ts,hs,nx⟩ o os K:=by
 refine v6 (τ:=⟨(d,x) :: ts,Z ++ hs,nx'⟩) hE ?_ ?_ hi hn hle h
 ·funext i;simp only [Eff.t,Eff.wT,Option.some.injEq,qr];split<;>rfl
 ·funext n
  show (yn Z n).getD (qB hs n) = qB (Z ++ hs) n
  unfold qB
  rw [YR]
  cases yn Z n<;>rfl
theorem yr {f:FuncId} {args:List Operand} {tys:Array TypeId} {d:Nat} {ty:TypeId} {pos:String} {af:Array Edge} {gg:Option (Nat × Bool)} {ys:List AV} {H H' : List HB} {r:AV} (ns fr:List Nat) (Z:List (Nat × HB)) (nx' : Nat) (r' : AV) (hf:IsFn C.P f) (hc:qI C.P f ys H r H')
  (hz:jg (zd 0 ns) ns (qB hs) (args.map (evA (qr ts))) ys) (hg:JA (zd 0 ns) (qB hs) ns H) (hb:Jy (Xm (zd 0 (Z.map (·.1)))) Z H')
  (k:jW C N all (⟨gd ++ (jC (.func f) ++ args.flatMap jC),ns,some d,r',Z,fr⟩ :: es) ⟨(d,r') :: ts,Z ++ hs,nx'⟩ os K)
  (hr:r.ren (Xm (zd 0 (Z.map (·.1)))) = r':=by rfl) (hns:(Z.map (·.1)).take H.length = ns:=by rfl) (hfr:(Z.map (·.1)).drop H.length = fr:=by rfl) (hHZ:H.length ≤ Z.length:=by exact Nat.le_of_ble_eq_true rfl) (hnd:(Z.map (·.1)).Nodup:=by exact of_decide_eq_true rfl)
  (hi:vx nx fr = true:=by rfl) (hn : ∀ n,n ∈ fr → n < nx':=by exact of_decide_eq_true rfl) (hle:nx ≤ nx':=by exact Nat.le_of_ble_eq_true rfl) (hN:d < N:=by exact nle rfl):Jz C N all gd es ⟨ts,hs,nx⟩ f args d tys ty pos af gg os K :=
 KK (Wu ns fr Z (x := .func f) (first:=[]) (cap:=[]) rfl hf hc hns hfr hHZ hnd (by rw [List.nil_append,List.append_nil];exact hz) hg hb hr hN) hi hn hle k
end steps
theorem jv {L:List (Nat × Nat)} {nh:Nat} {σ:St} {n' : Nat} {l:List (Nat × HB)} (hl:yO L nh σ l) (hm:Maps L nh n' n':=by exact qq rfl):yO L nh σ ((n',.dead) :: l):=ya n' hm hl
theorem W4 {C:Cx} {ts:List (Nat × AV)} {hs:List (Nat × HB)} {nx:Nat} (m j k:Nat) {ex:Bool} {kk:Nat} {row:List AV} (hm:qB hs m = .own ex kk [row]) (hj:row[j]? = some (.sl true [])) (hnx:C.nh ≤ nx) (hmx:m < nx):Red C ⟨ts,hs,nx⟩ ⟨ts,(m,.own ex kk [row.set j (.os nx 0 0)]) :: (nx,.own true k []) :: hs,nx + 1⟩:=by
 intro B a w hB ⟨g1,g2,F,ρ,hp,g4⟩
 let ρ' : Places:=fun n=>if n = nx then some none else ρ n
 have hnone:ρ nx = none:=by
  cases h:ρ nx with
  | none=>rfl
  | some c=>exact absurd (hp.dom nx (by rw [h];simp)) (Nat.lt_irrefl _)
 have hle:ρ.le ρ':=fun n c hn=>by
  simp only [ρ']
  by_cases e:n = nx
  ·subst e;rw [hnone] at hn;cases hn
  ·rw [if_neg e];exact hn
 have hget : ∀ n,qB ((m,HB.own ex kk [row.set j (.os nx 0 0)]) :: (nx,.own true k []) :: hs) n = if m = n then HB.own ex kk [row.set j (.os nx 0 0)] else if nx = n then .own true k [] else qB hs n:=fun n=>by
  rw [j5,j5]
 refine ⟨g1,g2,F,ρ',?_,fun i=>(g4 i).mono (Still.le_refl _) hle⟩
 refine { kept:=hp.kept,agree:=hp.agree,grow:=hp.grow,fresh:=hp.fresh,names:=fun n c hn=>hle n c (hp.names n c hn),dom:=fun n hn=>?_,own:=fun n=>?_,new:=fun n b c ho hn=>?_,sep:=fun n q b c c' hne ho ho' hn hn'=>?_ }
 ·simp only [ρ'] at hn
  show n < nx + 1
  by_cases e:n = nx
  ·omega
  ·rw [if_neg e] at hn;have:n < nx:=hp.dom n hn;omega
 ·show OwnAt F ρ' w n (qB _ n)
  rw [hget]
  by_cases e:m = n
  ·rw [if_pos e]
   subst e
   have h0:OwnAt F ρ w m (qB hs m):=hp.own m
   rw [hm] at h0
   rcases h0 with ⟨_,h2⟩|⟨b,cap,c,e',h1,h2,h3,h4,h5,h6⟩
   ·cases h2
   ·refine .inr ⟨b,cap,c,e',hle _ _ h1,h2,h3,h4,h5,fun r hr=>?_,fun i i' r x v hi hx hv=>?_⟩
    ·rw [List.mem_singleton.1 hr,List.length_set]
     exact h6.1 row (by simp)
    ·cases i with
     | succ i=>simp at hi
     | zero =>
       simp at hi
       subst hi
       rw [List.getElem?_set] at hx
       split at hx
       ·rename_i ej
        subst ej
        split at hx
        ·injection hx with hx
         subst hx
         have hv':=h6.2 0 j row _ v rfl hj hv
         have hn' : ρ' nx = some none:=by simp [ρ']
         cases hv' with
         | sl0 _ a cap ex he hn =>
           rw [he rfl];exact .osn _ nx a hn'
         | sl _ b off cap c e fr ex k rows hb hc he hs hk h =>
           have:cap = 0:=he rfl
           subst this
           exact .osn _ nx _ hn'
        ·cases hx
       ·exact (h6.2 0 i' row x v rfl hx hv).mono (Still.le_refl _) hle
  ·rw [if_neg e]
   by_cases e2:nx = n
   ·rw [if_pos e2];subst e2;exact .inl ⟨by simp [ρ'],rfl⟩
   ·rw [if_neg e2]
    have h0:OwnAt F ρ w n (qB hs n):=hp.own n
    cases e1:qB hs n with
    | dead=>trivial
    | fz rows' =>
      rw [e1] at h0
      rcases h0 with ⟨h1,h2⟩|⟨b,k',cap,c,e',fr,h1,h2,h3⟩
      ·exact .inl ⟨hle _ _ h1,h2⟩
      ·exact .inr ⟨b,k',cap,c,e',fr,hle _ _ h1,h2,h3⟩
    | mp l =>
      rw [e1] at h0
      obtain ⟨b,es,clock,h1,h2,h3⟩:=h0
      exact ⟨b,es,clock,hle _ _ h1,h2,h3.mono (Still.le_refl _) hle⟩
    | own ex' k' rows' =>
      rw [e1] at h0
      rcases h0 with ⟨h1,h2⟩|⟨b,cap,c,e',h1,h2,h3,h4,h5,h6⟩
      ·exact .inl ⟨hle _ _ h1,h2⟩
      ·exact .inr ⟨b,cap,c,e',hle _ _ h1,h2,h3,h4,h5,h6.mono (Still.le_refl _) hle⟩
 ·have ho:(qB ((m,HB.own ex kk [row.set j (.os nx 0 0)]) :: (nx,.own true k []) :: hs) n).isOwn = true:=ho
  rw [hget] at ho
  simp only [ρ'] at hn
  by_cases e:n = nx
  ·rw [if_pos e] at hn;cases hn
  ·rw [if_neg e] at hn
   refine hp.new n b c ?_ hn
   by_cases e2:m = n
   ·show (qB hs n).isOwn = true
    rw [← e2,hm];rfl
   ·rw [if_neg e2,if_neg (fun h=>e h.symm)] at ho;exact ho
 ·have ho:(qB ((m,HB.own ex kk [row.set j (.os nx 0 0)]) :: (nx,.own true k []) :: hs) n).isOwn = true:=ho
  have ho' : (qB ((m,HB.own ex kk [row.set j (.os nx 0 0)]) :: (nx,.own true k []) :: hs) q).isOwn = true:=ho'
  rw [hget] at ho ho'
  simp only [ρ'] at hn hn'
  by_cases e:n = nx
  ·rw [if_pos e] at hn;cases hn
  ·by_cases f:q = nx
   ·rw [if_pos f] at hn';cases hn'
   ·rw [if_neg e] at hn
    rw [if_neg f] at hn'
    refine hp.sep n q b c c' hne ?_ ?_ hn hn'
    ·by_cases e2:m = n
     ·show (qB hs n).isOwn = true
      rw [← e2,hm];rfl
     ·rw [if_neg e2,if_neg (fun h=>e h.symm)] at ho;exact ho
    ·by_cases e2:m = q
     ·show (qB hs q).isOwn = true
      rw [← e2,hm];rfl
     ·rw [if_neg e2,if_neg (fun h=>f h.symm)] at ho';exact ho'
end Go.Ab
