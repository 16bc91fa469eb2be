import Derived.Test.YtamejbkifpjhiaaGreatDoorMz6
import Derived.Test.YtamejbkifpjhiaaGreatDoorMz16
set_option linter.unusedSimpArgs false
set_option linter.unusedVariables false
namespace Go.Ab
open Go.RowKit
def XF (L:List (Nat × Nat)) (h:Nat → HB):List Nat → List HB → Prop
 | [],[]=>True
 | n :: ns,hb :: hbs=>((h n).isOwn = true ∧ vq L 0 (h n) hb) ∧ XF L h ns hbs
 | _,_=>False
def XD (L:List (Nat × Nat)):List (Nat × HB) → List HB → Prop
 | [],_=>True
 | (n,hb) :: zs,hbs=>vq L 0 (hbs.headD .dead) hb ∧ XD L zs hbs.tail
theorem ZI {L:List (Nat × Nat)} {h:Nat → HB} : ∀ {ns:List Nat} {H:List HB},XF L h ns H → ∀ (i:Nat) n hb,ns[i]? = some n → H[i]? = some hb → (h n).isOwn = true ∧ vq L 0 (h n) hb
 | [],H,_,i,n,hb,hn,_=>by simp at hn
 | m :: ns,hb' :: H,hg,i,n,hb,hn,hh=>by
   cases i with
   | zero=>simp at hn hh;subst hn;subst hh;exact hg.1
   | succ i=>exact ZI hg.2 i n hb (by simpa using hn) (by simpa using hh)
 | m :: ns,[],hg,i,n,hb,hn,hh=>hg.elim
theorem Zz {L:List (Nat × Nat)} : ∀ {Z:List (Nat × HB)} {H:List HB},XD L Z H → ∀ (i:Nat) n hb,Z[i]? = some (n,hb) → vq L 0 (H.getD i .dead) hb
 | [],H,_,i,n,hb,hn=>by simp at hn
 | (m,hb') :: Z,H,hg,i,n,hb,hn=>by
   cases i with
   | zero =>
     simp at hn
     obtain ⟨rfl,rfl⟩:=hn
     have:=hg.1
     cases H with
     | nil=>exact this
     | cons x H=>exact this
   | succ i =>
     have:=Zz hg.2 i n hb (by simpa using hn)
     cases H with
     | nil=>simpa using this
     | cons x H=>simpa using this
theorem qG {L:List (Nat × Nat)} {h:Nat → HB}:XF L h [] []:=trivial
theorem qx {L:List (Nat × Nat)} {h:Nat → HB} {n:Nat} {ns:List Nat} {hb:HB} {H:List HB} (hb0:HB) (hl:XF L h ns H) (hr:vq L 0 hb0 hb) (hn:h n = hb0:=by rfl) (ho:hb0.isOwn = true:=by rfl):XF L h (n :: ns) (hb :: H):=⟨by rw [hn];exact ⟨ho,hr⟩,hl⟩
theorem qF {L:List (Nat × Nat)} {H:List HB}:XD L [] H:=trivial
theorem qw {L:List (Nat × Nat)} {n:Nat} {hb hb' : HB} {Z:List (Nat × HB)} {H:List HB} (hr:vq L 0 hb' hb) (hl:XD L Z H):XD L ((n,hb) :: Z) (hb' :: H):=⟨hr,hl⟩
theorem qq {L:List (Nat × Nat)} {nh:Nat} {hb:HB}:vq L nh hb .dead:=by cases hb<;>trivial
theorem qb {L:List (Nat × Nat)} {nh:Nat} {l:List (List UInt8 × AV)} (hp : ∀ e,e ∈ l → e.2.pure = true):vq L nh (.mp (.map l)) (.mp (.map l)) :=
 ⟨l,.refl _,rfl,fun i x y h1 h2=>by
  rw [h1] at h2
  obtain rfl:=Option.some.inj h2
  exact ⟨rfl,qk (hp x (List.mem_of_getElem? h1))⟩⟩
theorem qy {L:List (Nat × Nat)} {nh:Nat} {ex ex' : Bool} {k:Nat} {row row' : List AV} (hr:jC L nh row row') (he:ex' = true → ex = true:=by first|exact id|exact nofun):vq L nh (.own ex k [row]) (.own ex' k [row']):=⟨he,rfl,vx hr zU⟩
theorem ZG : ∀ (Z hs:List (Nat × HB)) (n:Nat),y6 (Z ++ hs) n = (y6 Z n).or (y6 hs n)
 | [],hs,n=>by simp [y6]
 | (m,x) :: Z,hs,n=>by
   rw [List.cons_append]
   simp only [y6]
   split
   ·rfl
   ·exact ZG Z hs n
section calls
variable {C:Cx} {N d:Nat} {ty:TypeId} {pos:String} {af:Array Edge} {gd:Option (Nat × Bool)} {t:Nat → AV} {h:Nat → HB}
theorem Wn {f:FuncId} {x:Operand} {first cap:List AV} {args:List Operand} {tys:Array TypeId} {ys:List AV} {H H' : List HB} {r r' : AV} (ns fr:List Nat) (Z:List (Nat × HB)) (hx:evA t x = .clo (.func f) first cap)
  (hf:IsFn C.P f) (hc:qZ C.P f ys H r H') (hns:(Z.map (·.1)).take H.length = ns) (hfr:(Z.map (·.1)).drop H.length = fr) (hHZ:H.length ≤ Z.length) (hnd:(Z.map (·.1)).Nodup)
  (hz:jA (ke 0 ns) ns h (first ++ args.map (evA t) ++ cap) ys) (hg:XF (ke 0 ns) h ns H) (hb:XD (Yo (ke 0 (Z.map (·.1)))) Z H') (hr:r.ren (Yo (ke 0 (Z.map (·.1)))) = r') (hN:d < N) :
  ja C.P N ⟨some d,.call ⟨.value x,args.toArray,tys⟩,ty,pos,af,gd⟩ t h ⟨yr x ++ args.flatMap yr,ns,some d,r',Z,fr⟩ :=
 ky (H:=H) (H':=H') (xs:=first ++ args.map (evA t) ++ cap) (ys:=ys) _ ns Z fr rfl hN (vO f hf x args tys first cap hx) hfr hHZ hnd (fun n hn=>by rw [hns] at hn;exact hn)
  (by rw [hns];exact hz) hc (fun i n hb1 hi hj=>by rw [hns] at hi ⊢;exact ZI hg i n hb1 hi hj) (fun i n hb1 hi=>Zz hb i n hb1 hi) (hr ▸ YU _ _ _)
end calls
section steps
variable {C:Cx} {N:Nat} {all:Array Oper} {es:List Eff} {o:Oper} {os:List Oper} {K:List Eff → St → Prop} {ts:List (Nat × AV)} {hs:List (Nat × HB)} {nx:Nat} {gd:List Nat}
theorem Xv {rt rh fr:List Nat} {d:Nat} {x:AV} {Z:List (Nat × HB)} {nx' : Nat} (hE:ja C.P N o (qS ts) (jg hs) ⟨rt,rh,some d,x,Z,fr⟩) (hi:ki nx fr = true) (hn : ∀ n,n ∈ fr → n < nx') (hle:nx ≤ nx')
  (h:yH C N all (⟨gd ++ rt,rh,some d,x,Z,fr⟩ :: es) ⟨(d,x) :: ts,Z ++ hs,nx'⟩ os K):jH C N all gd es ⟨ts,hs,nx⟩ o os K:=by
 refine wq (τ:=⟨(d,x) :: ts,Z ++ hs,nx'⟩) hE ?_ ?_ hi hn hle h
 ·funext i;simp only [Eff.t,Eff.wT,Option.some.injEq,qS];split<;>rfl
 ·funext n
  show (y6 Z n).getD (jg hs n) = jg (Z ++ hs) n
  unfold jg
  rw [ZG]
  cases y6 Z n<;>rfl
theorem yD {f:FuncId} {args:List Operand} {tys:Array TypeId} {d:Nat} {ty:TypeId} {pos:String} {af:Array Edge} {gg:Option (Nat × Bool)} {ys:List AV} {H H' : List HB} {r:AV} (ns fr:List Nat) (Z:List (Nat × HB)) (nx' : Nat) (r' : AV) (hf:IsFn C.P f) (hc:qZ C.P f ys H r H')
  (hz:jA (ke 0 ns) ns (jg hs) (args.map (evA (qS ts))) ys) (hg:XF (ke 0 ns) (jg hs) ns H) (hb:XD (Yo (ke 0 (Z.map (·.1)))) Z H')
  (k:yH C N all (⟨gd ++ (yr (.func f) ++ args.flatMap yr),ns,some d,r',Z,fr⟩ :: es) ⟨(d,r') :: ts,Z ++ hs,nx'⟩ os K)
  (hr:r.ren (Yo (ke 0 (Z.map (·.1)))) = r':=by rfl) (hns:(Z.map (·.1)).take H.length = ns:=by rfl) (hfr:(Z.map (·.1)).drop H.length = fr:=by rfl) (hHZ:H.length ≤ Z.length:=by exact Nat.le_of_ble_eq_true rfl) (hnd:(Z.map (·.1)).Nodup:=by exact of_decide_eq_true rfl)
  (hi:ki nx fr = true:=by rfl) (hn : ∀ n,n ∈ fr → n < nx':=by exact of_decide_eq_true rfl) (hle:nx ≤ nx':=by exact Nat.le_of_ble_eq_true rfl) (hN:d < N:=by exact nle rfl):XE C N all gd es ⟨ts,hs,nx⟩ f args d tys ty pos af gg os K :=
 Xv (Wn ns fr Z (x := .func f) (first:=[]) (cap:=[]) rfl hf hc hns hfr hHZ hnd (by rw [List.nil_append,List.append_nil];exact hz) hg hb hr hN) hi hn hle k
theorem xd {f:FuncId} {fn:Func} {x:Operand} {first cap:List AV} {args:List Operand} {tys:Array TypeId} {d:Nat} {ty:TypeId} {pos:String} {af:Array Edge} {gg:Option (Nat × Bool)} {ys:List AV} {H H' : List HB} {r:AV} (ns fr:List Nat) (Z:List (Nat × HB)) (nx' : Nat) (r' : AV) (hf:C.P.funcs[f]? = some fn) (hc:qZ C.P f ys H r H')
  (hz:jA (ke 0 ns) ns (jg hs) (first ++ args.map (evA (qS ts)) ++ cap) ys) (hg:XF (ke 0 ns) (jg hs) ns H) (hb:XD (Yo (ke 0 (Z.map (·.1)))) Z H')
  (k:yH C N all (⟨gd ++ (yr x ++ args.flatMap yr),ns,some d,r',Z,fr⟩ :: es) ⟨(d,r') :: ts,Z ++ hs,nx'⟩ os K) (hx:evA (qS ts) x = .clo (.func f) first cap:=by rfl) (hb0:fn.body.isNone = false:=by rfl) (hn0:(fn.name == "runtime.NumGoroutine") = false:=by rfl)
  (hr:r.ren (Yo (ke 0 (Z.map (·.1)))) = r':=by rfl) (hns:(Z.map (·.1)).take H.length = ns:=by rfl) (hfr:(Z.map (·.1)).drop H.length = fr:=by rfl) (hHZ:H.length ≤ Z.length:=by exact Nat.le_of_ble_eq_true rfl) (hnd:(Z.map (·.1)).Nodup:=by exact of_decide_eq_true rfl)
  (hi:ki nx fr = true:=by rfl) (hn : ∀ n,n ∈ fr → n < nx':=by exact of_decide_eq_true rfl) (hle:nx ≤ nx':=by exact Nat.le_of_ble_eq_true rfl) (hN:d < N:=by exact nle rfl):jH C N all gd es ⟨ts,hs,nx⟩ ⟨some d,.call ⟨.value x,args.toArray,tys⟩,ty,pos,af,gg⟩ os K :=
 Xv (Wn ns fr Z hx (jW hf hb0 hn0) hc hns hfr hHZ hnd hz hg hb hr hN) hi hn hle k
end steps
theorem jx {L:List (Nat × Nat)} {nh:Nat} {σ:St} {n' : Nat} {l:List (Nat × HB)} (hl:vp L nh σ l) (hm:Maps L nh n' n':=by exact qN rfl):vp L nh σ ((n',.dead) :: l):=xn n' hm hl
theorem V5 {C:Cx} {ts:List (Nat × AV)} {hs:List (Nat × HB)} {nx:Nat} (m j k:Nat) {ex:Bool} {kk:Nat} {row:List AV} (hm:jg hs m = .own ex kk [row]) (hj:row[j]? = some (.sl true [])) (hnx:C.nh ≤ nx) (hmx:m < nx):Red C ⟨ts,hs,nx⟩ ⟨ts,(m,.own ex kk [row.set j (.os nx 0 0)]) :: (nx,.own true k []) :: hs,nx + 1⟩:=by
 intro B a w hB ⟨g1,g2,F,ρ,hp,g4⟩
 let ρ' : Places:=fun n=>if n = nx then some none else ρ n
 have hnone:ρ nx = none:=by
  cases h:ρ nx with
  | none=>rfl
  | some c=>exact absurd (hp.dom nx (by rw [h];simp)) (Nat.lt_irrefl _)
 have hle:ρ.le ρ':=fun n c hn=>by
  simp only [ρ']
  by_cases e:n = nx
  ·subst e;rw [hnone] at hn;cases hn
  ·rw [if_neg e];exact hn
 have hget : ∀ n,jg ((m,HB.own ex kk [row.set j (.os nx 0 0)]) :: (nx,.own true k []) :: hs) n = if m = n then HB.own ex kk [row.set j (.os nx 0 0)] else if nx = n then .own true k [] else jg hs n:=fun n=>by
  rw [xF,xF]
 refine ⟨g1,g2,F,ρ',?_,fun i=>(g4 i).mono (Still.le_refl _) hle⟩
 refine { kept:=hp.kept,agree:=hp.agree,grow:=hp.grow,fresh:=hp.fresh,names:=fun n c hn=>hle n c (hp.names n c hn),dom:=fun n hn=>?_,own:=fun n=>?_,new:=fun n b c ho hn=>?_,sep:=fun n q b c c' hne ho ho' hn hn'=>?_ }
 ·simp only [ρ'] at hn
  show n < nx + 1
  by_cases e:n = nx
  ·omega
  ·rw [if_neg e] at hn;have:n < nx:=hp.dom n hn;omega
 ·show OwnAt F ρ' w n (jg _ n)
  rw [hget]
  by_cases e:m = n
  ·rw [if_pos e]
   subst e
   have h0:OwnAt F ρ w m (jg hs m):=hp.own m
   rw [hm] at h0
   rcases h0 with ⟨_,h2⟩|⟨b,cap,c,e',h1,h2,h3,h4,h5,h6⟩
   ·cases h2
   ·refine .inr ⟨b,cap,c,e',hle _ _ h1,h2,h3,h4,h5,fun r hr=>?_,fun i i' r x v hi hx hv=>?_⟩
    ·rw [List.mem_singleton.1 hr,List.length_set]
     exact h6.1 row (by simp)
    ·cases i with
     | succ i=>simp at hi
     | zero =>
       simp at hi
       subst hi
       rw [List.getElem?_set] at hx
       split at hx
       ·rename_i ej
        subst ej
        split at hx
        ·injection hx with hx
         subst hx
         have hv':=h6.2 0 j row _ v rfl hj hv
         have hn' : ρ' nx = some none:=by simp [ρ']
         cases hv' with
         | sl0 _ a cap ex he hn =>
           rw [he rfl];exact .osn _ nx a hn'
         | sl _ b off cap c e fr ex k rows hb hc he hs hk h =>
           have:cap = 0:=he rfl
           subst this
           exact .osn _ nx _ hn'
        ·cases hx
       ·exact (h6.2 0 i' row x v rfl hx hv).mono (Still.le_refl _) hle
  ·rw [if_neg e]
   by_cases e2:nx = n
   ·rw [if_pos e2];subst e2;exact .inl ⟨by simp [ρ'],rfl⟩
   ·rw [if_neg e2]
    have h0:OwnAt F ρ w n (jg hs n):=hp.own n
    cases e1:jg hs n with
    | dead=>trivial
    | fz rows' =>
      rw [e1] at h0
      rcases h0 with ⟨h1,h2⟩|⟨b,k',cap,c,e',fr,h1,h2,h3⟩
      ·exact .inl ⟨hle _ _ h1,h2⟩
      ·exact .inr ⟨b,k',cap,c,e',fr,hle _ _ h1,h2,h3⟩
    | mp l =>
      rw [e1] at h0
      obtain ⟨b,es,clock,h1,h2,h3⟩:=h0
      exact ⟨b,es,clock,hle _ _ h1,h2,h3.mono (Still.le_refl _) hle⟩
    | own ex' k' rows' =>
      rw [e1] at h0
      rcases h0 with ⟨h1,h2⟩|⟨b,cap,c,e',h1,h2,h3,h4,h5,h6⟩
      ·exact .inl ⟨hle _ _ h1,h2⟩
      ·exact .inr ⟨b,cap,c,e',hle _ _ h1,h2,h3,h4,h5,h6.mono (Still.le_refl _) hle⟩
 ·have ho:(jg ((m,HB.own ex kk [row.set j (.os nx 0 0)]) :: (nx,.own true k []) :: hs) n).isOwn = true:=ho
  rw [hget] at ho
  simp only [ρ'] at hn
  by_cases e:n = nx
  ·rw [if_pos e] at hn;cases hn
  ·rw [if_neg e] at hn
   refine hp.new n b c ?_ hn
   by_cases e2:m = n
   ·show (jg hs n).isOwn = true
    rw [← e2,hm];rfl
   ·rw [if_neg e2,if_neg (fun h=>e h.symm)] at ho;exact ho
 ·have ho:(jg ((m,HB.own ex kk [row.set j (.os nx 0 0)]) :: (nx,.own true k []) :: hs) n).isOwn = true:=ho
  have ho' : (jg ((m,HB.own ex kk [row.set j (.os nx 0 0)]) :: (nx,.own true k []) :: hs) q).isOwn = true:=ho'
  rw [hget] at ho ho'
  simp only [ρ'] at hn hn'
  by_cases e:n = nx
  ·rw [if_pos e] at hn;cases hn
  ·by_cases f:q = nx
   ·rw [if_pos f] at hn';cases hn'
   ·rw [if_neg e] at hn
    rw [if_neg f] at hn'
    refine hp.sep n q b c c' hne ?_ ?_ hn hn'
    ·by_cases e2:m = n
     ·show (jg hs n).isOwn = true
      rw [← e2,hm];rfl
     ·rw [if_neg e2,if_neg (fun h=>e h.symm)] at ho;exact ho
    ·by_cases e2:m = q
     ·show (jg hs q).isOwn = true
      rw [← e2,hm];rfl
     ·rw [if_neg e2,if_neg (fun h=>f h.symm)] at ho';exact ho'
end Go.Ab
set_option linter.unusedSimpArgs false
set_option linter.unusedVariables false
namespace Go.Ab
open Go.RowKit
def Qp:List HB → Prop
 | []=>True
 | .own _ _ rows :: l=>(∀ row,row ∈ rows → ∀ x,x ∈ row → ∃ v,x = .v v) ∧ Qp l
 | _ :: _=>False
theorem Wx:Qp []:=trivial
def isV:AV → Bool | .v _=>true|_=>false
theorem qfg {row:List AV} (h:row.all isV = true) : ∀ x,x ∈ row → ∃ v,x = .v v:=fun x hx=>by
 have:=List.all_eq_true.1 h x hx
 cases x<;>first|exact ⟨_,rfl⟩|cases this
theorem Ww {α:Type} {f:α → List AV} {l:List α} {ex:Bool} {k:Nat} {H:List HB} (hl:Qp H) (hf : ∀ a,(f a).all isV = true):Qp (.own ex k (l.map f) :: H) :=
 ⟨fun row hr=>by obtain ⟨a,_,rfl⟩:=List.mem_map.1 hr;exact qfg (hf a),hl⟩
theorem Q5 : ∀ {H:List HB} {i:Nat} {hb:HB},Qp H → H[i]? = some hb → ∃ ex k rows,hb = .own ex k rows ∧ ∀ row,row ∈ rows → ∀ x,x ∈ row → ∃ v,x = .v v
 | [],i,hb,_,h=>by simp at h
 | .own ex k rows :: l,0,hb,hf,h=>by simp at h;exact ⟨ex,k,rows,h.symm,hf.1⟩
 | .own ex k rows :: l,i + 1,hb,hf,h=>Q5 (H:=l) hf.2 (by simpa using h)
 | .dead :: l,_,_,hf,_=>hf.elim
 | .fz _ :: l,_,_,hf,_=>hf.elim
 | .mp _ :: l,_,_,hf,_=>hf.elim
def qgo:AV → Bool
 | .v _ | .os ..=>true
 | .tup cs=>cs.all fun x=>match x with | .v _ | .os ..=>true|_=>false
 | _=>false
theorem qaR {F G:Still} {ρ:Places} {v:Value} {x:AV} (hm:M F ρ v x) (hx:qgo x = true):M G ρ v x:=by
 cases hm with
 | v _ _ h=>exact .v _ _ h
 | os _ n b k cap off len a hn hl ha=>exact .os _ n b k cap off len a hn hl ha
 | osn _ n a hn=>exact .osn _ n a hn
 | tup _ vs xs hl h =>
   refine .tup _ vs xs hl fun i u y hu hy=>?_
   have h1:=h i u y hu hy
   have h2:=List.all_eq_true.1 hx y (List.mem_of_getElem? hy)
   cases h1 with
   | v _ _ h=>exact .v _ _ h
   | os _ n b k cap off len a hn hl ha=>exact .os _ n b k cap off len a hn hl ha
   | osn _ n a hn=>exact .osn _ n a hn
   | _=>cases h2
 | _=>cases hx
theorem qcu {F G:Still} {ρ σ:Places} {c:Array Value} {k:Nat} {rows:List (List AV)} (hf : ∀ row,row ∈ rows → ∀ x,x ∈ row → ∃ v,x = .v v) (h:RowsAt F ρ c k rows):RowsAt G σ c k rows :=
 ⟨h.1,fun i j row x v h1 h2 h3=>by
  obtain ⟨u,rfl⟩:=hf row (List.mem_of_getElem? h1) x (List.mem_of_getElem? h2)
  have:=(h.2 i j row _ v h1 h2 h3).v_inv
  obtain ⟨rfl,hs⟩:=this
  exact .v _ _ hs⟩
theorem Q4 : ∀ (fr:List Nat) (H:List HB) (n:Nat),fr.length = H.length → fr.Nodup → (∃ (i:Nat) (hb:HB),fr[i]? = some n ∧ H[i]? = some hb ∧ y6 (fr.zip H) n = some hb) ∨ (n ∉ fr ∧ y6 (fr.zip H) n = none)
 | [],H,n,_,_ => .inr ⟨by simp,by simp [y6]⟩
 | m :: fr,[],n,hl,_=>by simp at hl
 | m :: fr,hb :: H,n,hl,hnd=>by
   by_cases e:m = n
   ·subst e;exact .inl ⟨0,hb,rfl,rfl,by simp [y6]⟩
   ·rcases Q4 fr H n (by simpa using hl) (List.nodup_cons.1 hnd).2 with ⟨i,hb',h1,h2,h3⟩|⟨h1,h2⟩
    ·exact .inl ⟨i + 1,hb',by simpa using h1,by simpa using h2,by simp [y6,e,h3]⟩
    ·exact .inr ⟨fun h=>by rcases List.mem_cons.1 h with h|h;exact e h.symm;exact h1 h,by simp [y6,e,h2]⟩
section calls
variable {C:Cx} {N d:Nat} {t:Nat → AV} {h:Nat → HB}
theorem Ki {o:Oper} {f:FuncId} {xs ys:List AV} {r r' : AV} {H' : List HB} (rt rh fr:List Nat) (hd:o.dst = some d) (hN:d < N) (he:jp C.P o t rt f xs) (hz:vn (zl rh h) xs ys) (hc:qZ C.P f ys [] r H')
  (hnd:fr.Nodup) (hlen:fr.length = H'.length) (hfl:Qp H') (hli:qgo r = true) (hr:r.ren (Yo (ke 0 fr)) = r'):ja C.P N o t h ⟨rt,rh,some d,r',fr.zip H',fr⟩:=by
 intro B A t' h' a w Q K hBN g hrt hrh hfrA hK
 obtain ⟨g1,g2,F,ρ,hp,g4⟩:=g
 obtain ⟨vs,hrun,hl,hm⟩:=he F ρ a w (fun j hj=>(hrt j hj) ▸ g4 j)
 have heq:zl rh h' = zl rh h:=by
  funext n;unfold zl;split
  ·rename_i hn;exact hrh n hn
  ·rfl
 have hown : ∀ n,OwnAt F ρ w n (zl rh h n):=fun n=>by
  rw [← heq];unfold zl;split
  ·exact hp.own n
  ·trivial
 have hnone : ∀ n b c,(zl rh h n).isOwn = true → ρ n = some (some (b,c)) → F b = none:=fun n b c hn hρ=>by
  rw [← heq] at hn;unfold zl at hn;split at hn
  ·exact (hp.new n b c hn hρ).1
  ·cases hn
 let F1:=Jh F ρ (zl rh h) w
 let B' : Base := { w0:=w,F0:=F1,ρ0:=noPlaces,O0:=fun _=>False,N:=vs.length,tab:=fun b p h=>(B.tab b p h).imp fun cs h=>h.imp fun e h=>h.imp fun fr h=>⟨h.1,QF F ρ _ w b _ (hp.grow b _ h.2)⟩ }
 have hag : ∀ b o,F1 b = some o → w.heap[b]? = some o:=by
  intro b o hb
  simp only [F1,Jh] at hb
  cases hF:F b with
  | some o'=>rw [hF] at hb;simp only at hb;rw [← hb];exact hp.agree b o' hF
  | none =>
    rw [hF] at hb
    simp only at hb
    split at hb
    ·exact hb
    ·cases hb
 have hGa:Ga B' (· < ([]:List HB).length) (fun i=>ys.getD i .junk) (fun n=>([]:List HB).getD n .dead) ⟨vs.toArray,[]⟩ w:=by
  refine ⟨rfl,by simp [B'],F1,noPlaces,?_,fun i=>?_⟩
  ·exact { kept:=⟨rfl,rfl,rfl,Nat.le_refl _,fun _ _ _=>rfl⟩,agree:=hag,grow:=Still.le_refl _,fresh:=fun b hb => .inl hb,names:=Places.le_refl _,dom:=fun n hn=>absurd rfl hn,own:=fun n=>by simp [OwnAt],new:=fun n b c hn=>by simp [HB.isOwn] at hn,sep:=fun n m b c c' _ hn=>by simp [HB.isOwn] at hn }
  ·show M F1 noPlaces _ (ys.getD i .junk)
   cases hy:ys[i]? with
   | none=>rw [List.getD_eq_getElem?_getD,hy];exact .junk _ _
   | some y =>
     rw [List.getD_eq_getElem?_getD,hy]
     have hi:i < xs.length:=by rw [hz.1];exact (List.getElem?_eq_some_iff.1 hy).1
     have hx:xs[i]? = some xs[i]:=List.getElem?_eq_getElem hi
     have hv:vs[i]? = some (vs[i]'(by omega)):=List.getElem?_eq_getElem (by omega)
     simp only [Array.getD_eq_getD_getElem?,List.getElem?_toArray,hv,Option.getD_some]
     exact hz.2 i _ y hx hy F ρ w _ hown hnone (hm i _ _ hv hx)
 refine Yd hrun (hc B' vs w (by rw [hl,hz.1]) rfl hGa) ?_
 intro e w' ⟨v,hev,_,_,F',ρ',hp',hm'⟩
 have hFF:F.le F':=fun b o hb=>hp'.grow b o (QF F ρ _ w b o hb)
 have hblk : ∀ b,b < w.heap.size → w'.heap[b]? = w.heap[b]?:=fun b hb=>hp'.kept.block b hb (fun h=>h)
 have hFlt : ∀ b,w.heap.size ≤ b → F b = none:=fun b hb=>by
  cases hF:F b with
  | none=>rfl
  | some o=>have:=(Array.getElem?_eq_some_iff.1 (hp.agree b o hF)).1;omega
 classical
 let ρn:Places:=fun n=>if hex : ∃ i:Nat,fr[i]? = some n then ρ' (Classical.choose hex) else ρ n
 have hinj : ∀ (i j n:Nat),fr[i]? = some n → fr[j]? = some n → i = j:=Xt hnd
 have hρn : ∀ (i n:Nat),fr[i]? = some n → ρn n = ρ' i:=fun i n hi=>by
  have hex : ∃ i:Nat,fr[i]? = some n:=⟨i,hi⟩
  simp only [ρn]
  rw [dif_pos hex,hinj _ i n (Classical.choose_spec hex) hi]
 have hρo : ∀ (n:Nat),n ∉ fr → ρn n = ρ n:=fun n hn=>by
  simp only [ρn]
  rw [dif_neg (fun ⟨i,hi⟩=>hn (List.mem_of_getElem? hi))]
 have hρle:ρ.le ρn:=fun n c hnc=>by
  by_cases hn:n ∈ fr
  ·exact absurd (hp.dom n (by rw [hnc];simp)) (hfrA n hn)
  ·rw [hρo n hn];exact hnc
 have hold : ∀ (n b:Nat) (c:Nat × Nat),n ∉ fr → (h' n).isOwn = true → ρ n = some (some (b,c)) → b < w.heap.size:=fun n b c _ ho hρ=>hp.blk ho hρ
 have hWH : ∀ n,(Eff.h ⟨rt,rh,some d,r',fr.zip H',fr⟩ h') n = match y6 (fr.zip H') n with|some x=>x|none=>h' n:=fun n=>by
  unfold Eff.h Eff.wH
  show (y6 (fr.zip H') n).getD (h' n) = _
  cases y6 (fr.zip H') n<;>rfl
 have hget : ∀ (i:Nat) (hb:HB),H'[i]? = some hb → H'.getD i .dead = hb:=fun i hb h=>by rw [List.getD_eq_getElem?_getD,h];rfl
 have hnew : ∀ (i n:Nat) (hb:HB) (b:Nat) (c:Nat × Nat),fr[i]? = some n → H'[i]? = some hb → ρ' i = some (some (b,c)) → w.heap.size ≤ b:=fun i n hb b c h1 h2 h3=>by
  obtain ⟨ex,k,rows,rfl,_⟩:=Q5 hfl h2
  rcases (hp'.new i b c (by rw [hget i _ h2];rfl) h3).2 with h4|h4
  ·exact h4
  ·exact h4.elim
 refine ⟨v,hev,hK _ _ ⟨?_,by rw [zo];exact g2,F,ρn,?_,fun i=>?_⟩⟩
 ·simpa [Act.put,hd] using g1
 ·refine { kept:=⟨hp'.kept.os.trans hp.kept.os,hp'.kept.tape.trans hp.kept.tape,hp'.kept.output.trans hp.kept.output,Nat.le_trans hp.kept.size hp'.kept.size,fun b hb ho=>?_⟩,agree:=fun b o hb=>?_,grow:=hp.grow,fresh:=hp.fresh,names:=fun n c hn=>hρle n c (hp.names n c hn),dom:=fun n hn=>?_,own:=fun n=>?_,new:=fun n b c ho hn=>?_,sep:=fun n m b c c' hne ho ho' hn hn'=>?_ }
  ·rw [hblk b (Nat.lt_of_lt_of_le hb hp.kept.size)];exact hp.kept.block b hb ho
  ·rw [hblk b (Array.getElem?_eq_some_iff.1 (hp.agree b o hb)).1];exact hp.agree b o hb
  ·by_cases hfn:n ∈ fr
   ·exact .inr hfn
   ·rw [hρo n hfn] at hn;exact .inl (hp.dom n hn)
  ·rw [hWH]
   rcases Q4 fr H' n hlen hnd with ⟨i,hb,h1,h2,h3⟩|⟨h1,h2⟩
   ·rw [h3]
    have h4:=hp'.own i
    rw [hget i hb h2] at h4
    obtain ⟨ex,k,rows,rfl,hfr⟩:=Q5 hfl h2
    show OwnAt F ρn w' n (.own ex k rows)
    rcases h4 with ⟨h5,h6⟩|⟨b,cap,c,e',h5,h6,h7,h8,h9,h10⟩
    ·exact .inl ⟨by rw [hρn i n h1];exact h5,h6⟩
    ·exact .inr ⟨b,cap,c,e',by rw [hρn i n h1];exact h5,h6,h7,h8,h9,qcu hfr h10⟩
   ·rw [h2]
    have h4:=hp.own n
    show OwnAt F ρn w' n (h' n)
    cases e1:h' n with
    | dead=>trivial
    | fz rows =>
      rw [e1] at h4
      rcases h4 with ⟨h5,h6⟩|⟨b,k,cap,c,e',fr',h5,h6,h7⟩
      ·exact .inl ⟨hρle n _ h5,h6⟩
      ·exact .inr ⟨b,k,cap,c,e',fr',hρle n _ h5,h6,h7⟩
    | mp l =>
      rw [e1] at h4
      obtain ⟨b,es,clock,h5,h6,h7⟩:=h4
      exact ⟨b,es,clock,hρle n _ h5,by rw [hblk b (Array.getElem?_eq_some_iff.1 h6).1];exact h6,h7.mono (Still.le_refl _) hρle⟩
    | own ex k rows =>
      rw [e1] at h4
      rcases h4 with ⟨h5,h6⟩|⟨b,cap,c,e',h5,h6,h7,h8,h9,h10⟩
      ·exact .inl ⟨hρle n _ h5,h6⟩
      ·exact .inr ⟨b,cap,c,e',hρle n _ h5,by rw [hblk b (Array.getElem?_eq_some_iff.1 h6).1];exact h6,h7,h8,h9,h10.mono (Still.le_refl _) hρle⟩
  ·rw [hWH] at ho
   rcases Q4 fr H' n hlen hnd with ⟨i,hb,h1,h2,h3⟩|⟨h1,h2⟩
   ·rw [hρn i n h1] at hn
    have:=hnew i n hb b c h1 h2 hn
    exact ⟨hFlt b this,.inl (Nat.le_trans hp.kept.size this)⟩
   ·rw [h2] at ho
    rw [hρo n h1] at hn
    exact hp.new n b c ho hn
  ·rw [hWH] at ho ho'
   rcases Q4 fr H' n hlen hnd with ⟨i,hb,h1,h2,h3⟩|⟨h1,h2⟩<;>rcases Q4 fr H' m hlen hnd with ⟨j,hb',k1,k2,k3⟩|⟨k1,k2⟩
   ·rw [h3] at ho;rw [k3] at ho'
    rw [hρn i n h1] at hn;rw [hρn j m k1] at hn'
    exact hp'.sep i j b c c' (fun e=>hne (by subst e;rw [h1] at k1;injection k1)) (by rw [hget i _ h2];exact ho) (by rw [hget j _ k2];exact ho') hn hn'
   ·rw [k2] at ho'
    rw [hρn i n h1] at hn;rw [hρo m k1] at hn'
    have:=hnew i n hb b c h1 h2 hn
    have:=hold m b c' k1 ho' hn'
    omega
   ·rw [h2] at ho
    rw [hρo n h1] at hn;rw [hρn j m k1] at hn'
    have:=hnew j m hb' b c' k1 k2 hn'
    have:=hold n b c h1 ho hn
    omega
   ·rw [h2] at ho;rw [k2] at ho'
    rw [hρo n h1] at hn;rw [hρo m k1] at hn'
    exact hp.sep n m b c c' hne ho ho' hn hn'
 ·rw [hd,kg _ _ _ _ (by omega)]
  unfold Eff.t Eff.wT
  by_cases hi:d = i
  ·subst hi
   have h0:=hm' 0
   simp only [one,if_true] at h0
   have h1:M F ρ' v r:=qaR (by simpa using h0) hli
   have h2:M F ρn v r':=hr ▸ YU (Yo (ke 0 fr)) 0 r F ρ' ρn v (fun n n' hmn c hc=>by
    rcases hmn with ⟨h3,_⟩|h3
    ·omega
    ·obtain ⟨⟨a1,a2⟩,h4,h5⟩:=List.mem_map.1 h3
     simp only [Prod.mk.injEq] at h5
     obtain ⟨rfl,rfl⟩:=h5
     have:=((w6 _ _ _ _).1 h4).2
     rw [Nat.sub_zero] at this
     rw [hρn _ _ this];exact hc) h1
   simpa using h2
  ·simpa [hi] using (g4 i).mono (Still.le_refl _) hρle
end calls
section steps
variable {C:Cx} {N:Nat} {all:Array Oper} {es:List Eff} {os:List Oper} {K:List Eff → St → Prop} {ts:List (Nat × AV)} {hs:List (Nat × HB)} {nx:Nat} {gd:List Nat}
theorem Xu {f:FuncId} {args:List Operand} {tys:Array TypeId} {d:Nat} {ty:TypeId} {pos:String} {af:Array Edge} {gg:Option (Nat × Bool)} {ys:List AV} {H' : List HB} {r:AV} {fr:List Nat} (rh:List Nat) (Z:List (Nat × HB)) (nx' : Nat) (r' : AV) (hf:IsFn C.P f) (hc:qZ C.P f ys [] r H')
  (hz:vn (zl rh (jg hs)) (args.map (evA (qS ts))) ys)
  (k:yH C N all (⟨gd ++ (yr (.func f) ++ args.flatMap yr),rh,some d,r',Z,fr⟩ :: es) ⟨(d,r') :: ts,Z ++ hs,nx'⟩ os K)
  (hfl:Qp H':=by (repeat' (first|exact Wx|refine Ww ?_ (fun _=>rfl)))) (hfr:Z.map (·.1) = fr:=by rfl) (hZ:fr.zip H' = Z:=by rfl) (hnd:fr.Nodup:=by exact of_decide_eq_true rfl) (hlen:fr.length = H'.length:=by rfl) (hli:qgo r = true:=by rfl) (hr:r.ren (Yo (ke 0 fr)) = r':=by rfl)
  (hi:ki nx fr = true:=by rfl) (hn : ∀ n,n ∈ fr → n < nx':=by exact of_decide_eq_true rfl) (hle:nx ≤ nx':=by exact Nat.le_of_ble_eq_true rfl) (hN:d < N:=by exact nle rfl):XE C N all gd es ⟨ts,hs,nx⟩ f args d tys ty pos af gg os K :=
 Xv (hZ ▸ Ki _ rh fr rfl hN (vO f hf (.func f) args tys [] [] rfl) (by rw [List.nil_append,List.append_nil];exact hz) hc hnd hlen hfl hli hr) hi hn hle k
end steps
end Go.Ab
