import Derived.Test.YtiljlcgmcmjcoaaGreatDoorMz6
import Derived.Test.YtiljlcgmcmjcoaaGreatDoorMz25
set_option linter.unusedSimpArgs false
set_option linter.unusedVariables false
namespace Go.Ab
open Go.RowKit
def Vu (L:List (Nat × Nat)) (h:Nat → HB):List Nat → List HB → Prop
 | [],[]=>True
 | n :: ns,hb :: hbs=>((h n).isOwn = true ∧ v7 L 0 (h n) hb) ∧ Vu L h ns hbs
 | _,_=>False
def VG (L:List (Nat × Nat)):List (Nat × HB) → List HB → Prop
 | [],_=>True
 | (n,hb) :: zs,hbs=>v7 L 0 (hbs.headD .dead) hb ∧ VG L zs hbs.tail
theorem K8 {L:List (Nat × Nat)} {h:Nat → HB} : ∀ {ns:List Nat} {H:List HB},Vu L h ns H → ∀ (i:Nat) n hb,ns[i]? = some n → H[i]? = some hb → (h n).isOwn = true ∧ v7 L 0 (h n) hb
 | [],H,_,i,n,hb,hn,_=>by simp at hn
 | m :: ns,hb' :: H,hg,i,n,hb,hn,hh=>by
   cases i with
   | zero=>simp at hn hh;subst hn;subst hh;exact hg.1
   | succ i=>exact K8 hg.2 i n hb (by simpa using hn) (by simpa using hh)
 | m :: ns,[],hg,i,n,hb,hn,hh=>hg.elim
theorem Wg {L:List (Nat × Nat)} : ∀ {Z:List (Nat × HB)} {H:List HB},VG L Z H → ∀ (i:Nat) n hb,Z[i]? = some (n,hb) → v7 L 0 (H.getD i .dead) hb
 | [],H,_,i,n,hb,hn=>by simp at hn
 | (m,hb') :: Z,H,hg,i,n,hb,hn=>by
   cases i with
   | zero =>
     simp at hn
     obtain ⟨rfl,rfl⟩:=hn
     have:=hg.1
     cases H with
     | nil=>exact this
     | cons x H=>exact this
   | succ i =>
     have:=Wg hg.2 i n hb (by simpa using hn)
     cases H with
     | nil=>simpa using this
     | cons x H=>simpa using this
theorem jo {L:List (Nat × Nat)} {h:Nat → HB}:Vu L h [] []:=trivial
theorem q6 {L:List (Nat × Nat)} {h:Nat → HB} {n:Nat} {ns:List Nat} {hb:HB} {H:List HB} (hb0:HB) (hl:Vu L h ns H) (hr:v7 L 0 hb0 hb) (hn:h n = hb0:=by rfl) (ho:hb0.isOwn = true:=by rfl):Vu L h (n :: ns) (hb :: H):=⟨by rw [hn];exact ⟨ho,hr⟩,hl⟩
theorem jm {L:List (Nat × Nat)} {H:List HB}:VG L [] H:=trivial
theorem q7 {L:List (Nat × Nat)} {n:Nat} {hb hb' : HB} {Z:List (Nat × HB)} {H:List HB} (hr:v7 L 0 hb' hb) (hl:VG L Z H):VG L ((n,hb) :: Z) (hb' :: H):=⟨hr,hl⟩
theorem qP {L:List (Nat × Nat)} {nh:Nat} {hb:HB}:v7 L nh hb .dead:=by cases hb<;>trivial
theorem qh {L:List (Nat × Nat)} {nh:Nat} {l:List (List UInt8 × AV)} (hp : ∀ e,e ∈ l → e.2.pure = true):v7 L nh (.mp (.map l)) (.mp (.map l)) :=
 ⟨l,.refl _,rfl,fun i x y h1 h2=>by
  rw [h1] at h2
  obtain rfl:=Option.some.inj h2
  exact ⟨rfl,qy (hp x (List.mem_of_getElem? h1))⟩⟩
theorem q5 {L:List (Nat × Nat)} {nh:Nat} {ex ex' : Bool} {k:Nat} {row row' : List AV} (hr:je L nh row row') (he:ex' = true → ex = true:=by first|exact id|exact nofun):v7 L nh (.own ex k [row]) (.own ex' k [row']):=⟨he,rfl,ky hr wd⟩
theorem KH : ∀ (Z hs:List (Nat × HB)) (n:Nat),xJ (Z ++ hs) n = (xJ Z n).or (xJ hs n)
 | [],hs,n=>by simp [xJ]
 | (m,x) :: Z,hs,n=>by
   rw [List.cons_append]
   simp only [xJ]
   split
   ·rfl
   ·exact KH Z hs n
section calls
variable {C:Cx} {N d:Nat} {ty:TypeId} {pos:String} {af:Array Edge} {gd:Option (Nat × Bool)} {t:Nat → AV} {h:Nat → HB}
theorem qfs {f:FuncId} {x:Operand} {first cap:List AV} {args:List Operand} {tys:Array TypeId} {ys:List AV} {H H' : List HB} {r r' : AV} (ns fr:List Nat) (Z:List (Nat × HB)) (hx:evA t x = .clo (.func f) first cap)
  (hf:IsFn C.P f) (hc:qo C.P f ys H r H') (hns:(Z.map (·.1)).take H.length = ns) (hfr:(Z.map (·.1)).drop H.length = fr) (hHZ:H.length ≤ Z.length) (hnd:(Z.map (·.1)).Nodup)
  (hz:qW (Qi 0 ns) ns h (first ++ args.map (evA t) ++ cap) ys) (hg:Vu (Qi 0 ns) h ns H) (hb:VG (Wv (Qi 0 (Z.map (·.1)))) Z H') (hr:r.ren (Wv (Qi 0 (Z.map (·.1)))) = r') (hN:d < N) :
  qF C.P N ⟨some d,.call ⟨.value x,args.toArray,tys⟩,ty,pos,af,gd⟩ t h ⟨yx x ++ args.flatMap yx,ns,some d,r',Z,fr⟩ :=
 kh (H:=H) (H':=H') (xs:=first ++ args.map (evA t) ++ cap) (ys:=ys) _ ns Z fr rfl hN (v6 f hf x args tys first cap hx) hfr hHZ hnd (fun n hn=>by rw [hns] at hn;exact hn)
  (by rw [hns];exact hz) hc (fun i n hb1 hi hj=>by rw [hns] at hi ⊢;exact K8 hg i n hb1 hi hj) (fun i n hb1 hi=>Wg hb i n hb1 hi) (hr ▸ VY _ _ _)
end calls
section steps
variable {C:Cx} {N:Nat} {all:Array Oper} {es:List Eff} {o:Oper} {os:List Oper} {K:List Eff → St → Prop} {ts:List (Nat × AV)} {hs:List (Nat × HB)} {nx:Nat} {gd:List Nat}
theorem qfp {rt rh fr:List Nat} {d:Nat} {x:AV} {Z:List (Nat × HB)} {nx' : Nat} (hE:qF C.P N o (qu ts) (ja hs) ⟨rt,rh,some d,x,Z,fr⟩) (hi:we nx fr = true) (hn : ∀ n,n ∈ fr → n < nx') (hle:nx ≤ nx')
  (h:ye C N all (⟨gd ++ rt,rh,some d,x,Z,fr⟩ :: es) ⟨(d,x) :: ts,Z ++ hs,nx'⟩ os K):ji C N all gd es ⟨ts,hs,nx⟩ o os K:=by
 refine wS (τ:=⟨(d,x) :: ts,Z ++ hs,nx'⟩) hE ?_ ?_ hi hn hle h
 ·funext i;simp only [Eff.t,Eff.wT,Option.some.injEq,qu];split<;>rfl
 ·funext n
  show (xJ Z n).getD (ja hs n) = ja (Z ++ hs) n
  unfold ja
  rw [KH]
  cases xJ Z n<;>rfl
theorem qay {f:FuncId} {args:List Operand} {tys:Array TypeId} {d:Nat} {ty:TypeId} {pos:String} {af:Array Edge} {gg:Option (Nat × Bool)} {ys:List AV} {H H' : List HB} {r:AV} (ns fr:List Nat) (Z:List (Nat × HB)) (nx' : Nat) (r' : AV) (hf:IsFn C.P f) (hc:qo C.P f ys H r H')
  (hz:qW (Qi 0 ns) ns (ja hs) (args.map (evA (qu ts))) ys) (hg:Vu (Qi 0 ns) (ja hs) ns H) (hb:VG (Wv (Qi 0 (Z.map (·.1)))) Z H')
  (k:ye C N all (⟨gd ++ (yx (.func f) ++ args.flatMap yx),ns,some d,r',Z,fr⟩ :: es) ⟨(d,r') :: ts,Z ++ hs,nx'⟩ os K)
  (hr:r.ren (Wv (Qi 0 (Z.map (·.1)))) = r':=by rfl) (hns:(Z.map (·.1)).take H.length = ns:=by rfl) (hfr:(Z.map (·.1)).drop H.length = fr:=by rfl) (hHZ:H.length ≤ Z.length:=by exact Nat.le_of_ble_eq_true rfl) (hnd:(Z.map (·.1)).Nodup:=by exact of_decide_eq_true rfl)
  (hi:we nx fr = true:=by rfl) (hn : ∀ n,n ∈ fr → n < nx':=by exact of_decide_eq_true rfl) (hle:nx ≤ nx':=by exact Nat.le_of_ble_eq_true rfl) (hN:d < N:=by exact nle rfl):Vx C N all gd es ⟨ts,hs,nx⟩ f args d tys ty pos af gg os K :=
 qfp (qfs ns fr Z (x := .func f) (first:=[]) (cap:=[]) rfl hf hc hns hfr hHZ hnd (by rw [List.nil_append,List.append_nil];exact hz) hg hb hr hN) hi hn hle k
end steps
theorem xa {L:List (Nat × Nat)} {nh:Nat} {σ:St} {n' : Nat} {l:List (Nat × HB)} (hl:vN L nh σ l) (hm:Maps L nh n' n':=by exact jj rfl):vN L nh σ ((n',.dead) :: l):=yp n' hm hl
end Go.Ab
