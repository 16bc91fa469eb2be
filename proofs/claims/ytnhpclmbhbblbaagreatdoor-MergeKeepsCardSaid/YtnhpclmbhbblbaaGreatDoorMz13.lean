import Derived.Test.YtnhpclmbhbblbaaGreatDoorMz12
import Derived.Test.YtnhpclmbhbblbaaGreatDoorMz11
import Derived.Test.YtnhpclmbhbblbaaGreatDoorMz0
set_option linter.unusedSimpArgs false
set_option linter.unnecessarySimpa false
set_option linter.unusedVariables false
namespace Go.Proofs.YtnhpclmbhbblbaaGreatDoor
open Go.Op
theorem Qm {p:qx} {k:Nat} (hk:k + 1 < (qg p).length):qg (xi ((qg p).take (k + 1))) = (qg p).take (k + 1) :=
 kj (fun e=>by have h2:=congrArg List.length e;rw [List.length_take,List.length_nil] at h2;omega) fun n hn=>ki p n (List.mem_of_mem_take hn)
theorem wF {p a:qx}:a ∈ q0 p ↔ inB p a = true ∧ ¬ a = p:=by
 unfold q0
 rw [List.mem_map]
 constructor
 ·rintro ⟨k,hk,rfl⟩
  have hk:=List.mem_range.1 hk
  have hn:=Qm (p:=p) (k:=k) (by omega)
  refine ⟨by rw [vN,hn];exact List.take_prefix _ _,fun e=>?_⟩
  rw [e] at hn
  have:=congrArg List.length hn
  rw [List.length_take] at this
  omega
 ·rintro ⟨h1,h2⟩
  have h3:=vN.1 h1
  obtain ⟨s,hs⟩:=h3
  have hsn:s ≠ []:=fun e=>h2 (by rw [e,List.append_nil] at hs;rw [← jL a,hs,jL])
  have hl:=congrArg List.length hs
  rw [List.length_append] at hl
  have hp:=List.length_pos_iff.2 hsn
  have ha:=List.length_pos_iff.2 (yc a)
  refine ⟨(qg a).length - 1,List.mem_range.2 (by omega),?_⟩
  rw [show (qg a).length - 1 + 1 = (qg a).length from by omega, ← hs,List.take_left,jL]
theorem jH (p:qx):(q0 p).length = (qg p).length - 1:=by simp [q0]
theorem xh {p:qx} {k:Nat} (hk:k < (q0 p).length):(q0 p)[k] = xi ((qg p).take (k + 1)):=by simp [q0]
theorem VJ {p:qx} {k:Nat} (hk:k < (q0 p).length):q0 (q0 p)[k] = (q0 p).take k:=by
 rw [jH] at hk
 rw [xh (by rw [jH];exact hk)]
 have hn:=Qm (p:=p) (k:=k) (by omega)
 apply List.ext_getElem
 ·rw [jH,hn,List.length_take,List.length_take,jH];omega
 ·intro i h1 h2
  rw [xh h1,List.getElem_take,xh,hn,List.take_take]
  congr 2
  rw [jH,hn,List.length_take] at h1
  omega
theorem KO {p q:qx} (hp:qn p = 0) (hq:qn q = 0) (h:qy p = qy q):q0 p = q0 q:=by
 have hd:(qg p).dropLast = (qg q).dropLast:=by
  have a1:=(vR p).2
  have a2:=(vR q).2
  by_cases e1:(qg p).dropLast = []
  ·by_cases e2:(qg q).dropLast = []
   ·rw [e1,e2]
   ·have h3:=vP e2
    rw [← h, ← a1,e1] at h3
    exact absurd rfl (zr hq [] (List.dropLast_subset _ (by rw [← h3];simp [xi,qg])))
  ·have h3:=vP e1
   by_cases e2:(qg q).dropLast = []
   ·rw [h, ← a2,e2] at h3
    exact absurd rfl (zr hp [] (List.dropLast_subset _ (by rw [← h3];simp [xi,qg])))
   ·rw [← h3,h,vP e2]
 have hl:=congrArg List.length hd
 rw [List.length_dropLast,List.length_dropLast] at hl
 apply List.ext_getElem
 ·rw [jH,jH,hl]
 ·intro i h1 h2
  rw [xh h1,xh h2]
  rw [jH] at h1 h2
  have g : ∀ l:List qx,i < l.length - 1 → l.take (i + 1) = l.dropLast.take (i + 1):=fun l hl=>by
   rw [List.dropLast_eq_take,List.take_take,Nat.min_eq_left (by omega)]
  rw [g _ h1,g _ h2,hd]
theorem wG {p a:qx} (hp:qn p = 0) (h:a ∈ q0 p):qn a = 0:=by
 obtain ⟨h1,h2⟩:=wF.1 h
 obtain ⟨g1,g2⟩:=j4.1 hp
 have h3:=vN.1 h1
 obtain ⟨r,hr,_⟩:=qaK.1 h1
 exact j4.2 ⟨fun n hn=>g1 n (h3.subset hn),wx g2 h3.length_le (by rw [hr];simp)⟩
theorem QS {m t o:List Ent} {p q:qx} : ∀ {k n:Nat},xX m t o p k n = some q → ∃ j,n ≤ j ∧ j < n + k ∧ x7 p (j:Int) = 0 ∧ q = xD p (j:Int) ∧ qG m q = none ∧ qG t q = none ∧ qG o q = none
 | 0,n,h=>by cases h
 | k + 1,n,h=>by
   unfold xX at h
   split at h
   ·rename_i he
    split at h
    ·rename_i hf
     injection h with h
     subst h
     unfold JW at hf
     simp only [Bool.and_eq_true,Bool.not_eq_true',J8] at hf
     exact ⟨n,by omega,by omega,he,rfl,by simpa using hf.1.1,by simpa using hf.1.2,by simpa using hf.2⟩
    ·obtain ⟨j,h1,h2,h3⟩:=QS h
     exact ⟨j,by omega,by omega,h3⟩
   ·cases h
theorem QX {m t:List Ent} {s s' : MS} {p x:qx} (hp:qn p = 0) (h:y8 m t s p x = some s') : ∃ q,s' = ⟨js s.out ⟨q,false,x,1⟩,s.cps ++ [⟨p,q⟩]⟩ ∧ qn q = 0 ∧ qy q = qy p ∧ qG m q = none ∧ qG t q = none ∧ qG s.out q = none:=by
 unfold y8 at h
 cases hq:xX m t s.out p 99 1 with
 | none=>rw [hq] at h;cases h
 | some q =>
   rw [hq] at h
   injection h with h
   obtain ⟨j,h1,h2,h3,h4,h5,h6,h7⟩:=QS hq
   have he:yF p (j:Int) = 0:=by
    unfold yF
    rw [if_pos hp,if_neg (by omega),h3]
   have hb:=Ze he
   exact ⟨q,h.symm,by rw [h4];exact hb.1,by rw [h4];exact hb.2,h5,h6,h7⟩
structure MInv (o:List Ent):Prop where
 rise:qS jj o = true
 ent : ∀ x,x ∈ o → yP x = 0
def yR (o:List Ent) (a:qx):Prop:=(stT o a).kind = 1
theorem zo {t:List Ent} {x y:Ent} (hs:qS jj t = true) (h:y ∈ js t x):y = x ∨ y ∈ t:=((Jp hs y).1 h).imp id And.left
theorem Xv {o:List Ent} {x:Ent} (h:MInv o) (hx:yP x = 0):MInv (js o x) :=
 ⟨yS h.rise,fun y hy=>by rcases zo h.rise hy with rfl|h1;exact hx;exact h.ent y h1⟩
theorem QL {o:List Ent} {x:Ent} (hs:qS jj o = true) (p:qx):stT (js o x) p = if p = x.path then yw x else stT o p:=by
 unfold stT
 rw [Qc hs]
 by_cases h:p = x.path
 ·rw [if_pos h,if_pos h]
 ·rw [if_neg h,if_neg h]
theorem YS {x:Ent} (h:yP x = 0):x.fold = true → x.text = []:=fun hf=>by
 have:=(jM h).2.1
 exact Classical.byContradiction fun e=>this ⟨hf,e⟩
theorem XV {o:List Ent} (h:MInv o) {p s:qx} (hp:stT o p = ⟨2,s⟩):s.length ≤ 300:=by
 obtain ⟨x,h1,h2,h3⟩:=qbH.1 hp
 rw [← h3]
 exact (jM (h.ent x (xu h1).1)).2.2.1
theorem Jw {x:Thg} (h:x.kind = 2):x = ⟨2,x.text⟩:=qa5 h rfl
theorem wa {m t:List Ent} {s s' : MS} {p x:qx} (hi:MInv s.out) (hp:qn p = 0) (hx:x.length ≤ 300) (h:y8 m t s p x = some s') :
  MInv s'.out ∧ (∀ a,yR s.out a → yR s'.out a) ∧ ∀ y,y ∈ s'.out → y ∈ s.out ∨ q0 y.path = q0 p:=by
 obtain ⟨q,rfl,h1,h2,_,_,h5⟩:=QX hp h
 refine ⟨Xv hi (JO h1 (fun e=>by cases e) hx (by decide)),fun a ha=>?_,fun y hy=>?_⟩
 ·unfold yR at *
  show (stT (js s.out _) a).kind = 1
  rw [QL hi.rise]
  split
  ·rename_i e
   simp only at e
   subst e
   rw [Qs.2 h5] at ha;cases ha
  ·exact ha
 ·rcases zo hi.rise hy with rfl|h3
  ·exact .inr (KO h1 hp h2)
  ·exact .inl h3
theorem Jm {m t:List Ent} : ∀ {l:List (qx × qx)} {s s' : MS},MInv s.out → (∀ g,g ∈ l → qn g.1 = 0 ∧ g.2.length ≤ 300) → Yw m t l s = some s' → MInv s'.out
 | [],s,s',hi,_,h=>by
   injection h with h
   exact h ▸ hi
 | g :: l,s,s',hi,hg,h=>by
   unfold Yw at h
   cases hq:y8 m t s g.1 g.2 with
   | none=>rw [hq] at h;cases h
   | some s1 =>
     rw [hq] at h
     have h1:=hg g (by simp)
     exact Jm (wa hi h1.1 h1.2 hq).1 (fun g' hg'=>hg g' (by simp [hg'])) h
theorem WQ {m t:List Ent} {s s' : MS} {q:qx} (hi:MInv s.out) (hq:qn q = 0) (ha : ∀ a,a ∈ q0 q → yR s.out a) (h:kN m t s q = some s') :
  MInv s'.out ∧ yR s'.out q ∧ (∀ a,yR s.out a → yR s'.out a) ∧ ∀ y,y ∈ s'.out → y ∈ s.out ∨ ∀ a,a ∈ q0 y.path → yR s'.out a:=by
 unfold kN at h
 have hi1:MInv (js s.out ⟨q,true,[],1⟩):=Xv hi (JO hq (fun _=>rfl) (by simp) (by decide))
 have hf1 : ∀ a,yR s.out a → yR (js s.out ⟨q,true,[],1⟩) a:=fun a h1=>by
  unfold yR at *
  rw [QL hi.rise]
  split
  ·rfl
  ·exact h1
 have hq1:yR (js s.out ⟨q,true,[],1⟩) q:=by
  unfold yR
  rw [QL hi.rise,if_pos rfl];rfl
 split at h
 ·rename_i h1
  injection h with h
  subst h
  exact ⟨hi,h1,fun _ h=>h,fun y hy => .inl hy⟩
 ·split at h
  ·rename_i h2
   have hx:=XV hi (Jw h2)
   obtain ⟨g1,g2,g3⟩:=wa (s:=⟨js s.out ⟨q,true,[],1⟩,s.cps⟩) hi1 hq hx h
   refine ⟨g1,g2 q hq1,fun a h1=>g2 a (hf1 a h1),fun y hy=>?_⟩
   rcases g3 y hy with h3|h3
   ·rcases zo hi.rise h3 with rfl|h4
    ·exact .inr fun a h5=>g2 a (hf1 a (ha a h5))
    ·exact .inl h4
   ·exact .inr fun a h5=>g2 a (hf1 a (ha a (h3 ▸ h5)))
  ·injection h with h
   subst h
   refine ⟨hi1,hq1,hf1,fun y hy=>?_⟩
   rcases zo hi.rise hy with rfl|h4
   ·exact .inr fun a h5=>hf1 a (ha a h5)
   ·exact .inl h4
def Qx (o:List Ent) (qs:List qx):Prop := ∀ A q B,qs = A ++ q :: B → ∀ a,a ∈ q0 q → a ∈ A ∨ yR o a
theorem Ve (o:List Ent) (p:qx):Qx o (q0 p):=fun A q B h a ha=>by
 have hk:A.length < (q0 p).length:=by rw [h];simp
 have hq:(q0 p)[A.length] = q:=by simp [h]
 have h2:=VJ hk
 rw [hq] at h2
 rw [h2,h,List.take_left] at ha
 exact .inl ha
theorem Zj {o:List Ent} {X Y:List qx} (hx:Qx o X) (hy:Qx o Y):Qx o (X ++ Y):=fun A q B h a ha=>by
 rcases List.append_eq_append_iff.1 h with ⟨xs,h1,h2⟩|⟨bs,h1,h2⟩
 ·rcases hy xs q B h2 a ha with h3|h3
  ·exact .inl (by rw [h1];exact List.mem_append_right _ h3)
  ·exact .inr h3
 ·cases bs with
  | nil =>
    rw [List.nil_append] at h2
    rcases hy [] q B h2.symm a ha with h3|h3
    ·cases h3
    ·exact .inr h3
  | cons b bs =>
    rw [List.cons_append] at h2
    injection h2 with h2 h3
    subst h2
    exact hx A q bs h1 a ha
theorem QY (o:List Ent) : ∀ L:List qx,Qx o (L.flatMap q0)
 | []=>fun A q B h=>by simp at h
 | p :: L=>by rw [List.flatMap_cons];exact Zj (Ve o p) (QY o L)
theorem Y5 {m t:List Ent} : ∀ {qs:List qx} {s s' : MS},MInv s.out → Qx s.out qs → (∀ q,q ∈ qs → qn q = 0) → (∀ x,x ∈ s.out → ∀ a,a ∈ q0 x.path → yR s.out a ∨ a ∈ qs) → v8 m t qs s = some s' →
  MInv s'.out ∧ ∀ x,x ∈ s'.out → ∀ a,a ∈ q0 x.path → yR s'.out a
 | [],s,s',hi,_,_,ha,h=>by
   injection h with h
   subst h
   exact ⟨hi,fun x hx a h1=>(ha x hx a h1).resolve_right (by simp)⟩
 | q :: qs,s,s',hi,hc,hq,ha,h=>by
   unfold v8 at h
   cases h1:kN m t s q with
   | none=>rw [h1] at h;cases h
   | some s1 =>
     rw [h1] at h
     obtain ⟨g1,g2,g3,g4⟩:=WQ hi (hq q (by simp)) (fun a h2=>(hc [] q qs rfl a h2).resolve_left (by simp)) h1
     refine Y5 g1 (fun A r B e a h2=>?_) (fun r hr=>hq r (by simp [hr])) (fun x hx a h2=>?_) h
     ·rcases hc (q :: A) r B (by rw [e];rfl) a h2 with h3|h3
      ·rcases List.mem_cons.1 h3 with rfl|h3
       ·exact .inr g2
       ·exact .inl h3
      ·exact .inr (g3 a h3)
     ·rcases g4 x hx with h3|h3
      ·rcases ha x h3 a h2 with h4|h4
       ·exact .inl (g3 a h4)
       ·rcases List.mem_cons.1 h4 with rfl|h4
        ·exact .inl g2
        ·exact .inr h4
      ·exact .inl (h3 a h2)
theorem zM (b m t:List Ent) : ∀ {P:List qx} {o:List Ent},qS jj o = true →
  qS jj (P.foldl (fun o p=>wK o p (yj b m t p).1) o) = true ∧
  ∀ p,qG (P.foldl (fun o p=>wK o p (yj b m t p).1) o) p = if p ∈ P ∧ ¬ (yj b m t p).1.kind = 0 then some (zX p (yj b m t p).1) else qG o p
 | [],o,hs=>⟨hs,fun p=>by simp⟩
 | q :: P,o,hs=>by
   have hs1:qS jj (wK o q (yj b m t q).1) = true:=by
    unfold wK
    split
    ·exact hs
    ·exact yS hs
   obtain ⟨h1,h2⟩:=zM b m t (P:=P) hs1
   refine ⟨h1,fun p=>?_⟩
   rw [List.foldl_cons,h2]
   by_cases hk:(yj b m t p).1.kind = 0
   ·rw [if_neg (fun h=>h.2 hk),if_neg (fun h=>h.2 hk)]
    unfold wK
    split
    ·rfl
    ·rename_i hq
     rw [Qc hs,if_neg]
     rintro e
     simp only [zX] at e
     subst e
     exact hq hk
   ·by_cases hp:p ∈ P
    ·rw [if_pos ⟨hp,hk⟩,if_pos ⟨by simp [hp],hk⟩]
    ·rw [if_neg (fun h=>hp h.1)]
     by_cases e:p = q
     ·subst e
      rw [if_pos ⟨by simp,hk⟩]
      unfold wK
      rw [if_neg hk,Qc hs];exact if_pos rfl
     ·rw [if_neg (fun h=>by rcases List.mem_cons.1 h.1 with h1|h1;exact e h1;exact hp h1)]
      unfold wK
      split
      ·rfl
      ·rw [Qc hs,if_neg]
       exact e
theorem XT {u:List Ent} (hu:MInv u) (p:qx):(stT u p).text.length ≤ 300:=by
 rcases ka u p with ⟨_,h⟩|⟨_,h⟩|h
 ·rw [h];simp
 ·rw [h];simp
 ·exact XV hu (Jw h)
theorem Z2 {b x y:Thg} (hx:x.text.length ≤ 300) (hy:y.text.length ≤ 300):(kv b x y).1.text.length ≤ 300 ∧ (kv b x y).2.text.length ≤ 300:=by
 have hn:noT.text.length ≤ 300:=by decide
 unfold kv
 (repeat' split)<;>exact ⟨by assumption,by assumption⟩
theorem wm {t:List Ent} (h:Right t):MInv t:=⟨h.rise,h.ent⟩
theorem zS {b m t:List Ent} (hb:Right b) (hm:Right m) (ht:Right t) {p:qx} (h:p ∈ y4 b m t):qn p = 0:=by
 have g : ∀ u:List Ent,Right u → ¬ qG u p = none → qn p = 0:=fun u hu h1=>by
  cases h2:qG u p with
  | none=>exact absurd h2 h1
  | some x =>
    obtain ⟨h3,h4⟩:=xu h2
    have:=(jM (hu.ent x h3)).1
    rw [h4] at this;exact this
 rcases VB.1 h with h1|h1|h1
 ·exact g b hb h1
 ·exact g m hm h1
 ·exact g t ht h1
theorem Ql {b m t:List Ent} (hb:Right b) (hm:Right m) (ht:Right t):MInv (yK b m t (y4 b m t)):=by
 obtain ⟨h1,h2⟩:=zM b m t (P:=y4 b m t) (o:=[]) rfl
 refine ⟨h1,fun x hx=>?_⟩
 have h3:=vy h1 hx
 rw [h2] at h3
 split at h3
 ·rename_i h4
  injection h3 with h3
  have hg:=(VD (b:=stT b x.path) (ka m x.path) (ka t x.path)).1
  have hl:=(Z2 (b:=stT b x.path) (XT (wm hm) x.path) (XT (wm ht) x.path)).1
  have hpe:=zS hb hm ht h4.1
  rw [← h3]
  refine JO hpe (fun e=>?_) hl (by decide)
  have e:(yj b m t x.path).1.kind = 1:=by simpa using e
  rcases hg with ⟨k1,k2⟩|⟨k1,k2⟩|k1
  ·exact k2
  ·exact k2
  ·exact absurd (k1.symm.trans e) (by decide)
 ·cases h3
theorem z8 {b m t:List Ent} (hb:Right b) (hm:Right m) (ht:Right t) : ∀ g,g ∈ yy b m t (y4 b m t) → qn g.1 = 0 ∧ g.2.length ≤ 300:=by
 intro g hg
 obtain ⟨p,h1,h2⟩:=List.mem_filterMap.1 hg
 split at h2
 ·injection h2 with h2
  subst h2
  exact ⟨zS hb hm ht h1,(Z2 (b:=stT b p) (XT (wm hm) p) (XT (wm ht) p)).2⟩
 ·cases h2
theorem Qe {b m t:List Ent} {s:MS} (hb:Right b) (hm:Right m) (ht:Right t) (h:xx b m t = some s):MInv s.out ∧ ∀ x,x ∈ s.out → ∀ a,a ∈ q0 x.path → yR s.out a:=by
 unfold xx at h
 cases h1:Yw m t (yy b m t (y4 b m t)) ⟨yK b m t (y4 b m t),[]⟩ with
 | none=>rw [h1] at h;cases h
 | some s1 =>
   rw [h1] at h
   have hi:=Jm (s:=⟨yK b m t (y4 b m t),[]⟩) (Ql hb hm ht) (z8 hb hm ht) h1
   refine Y5 hi (QY _ _) (fun q hq=>?_) (fun x hx a ha=>?_) h
   ·obtain ⟨p,h2,h3⟩:=List.mem_flatMap.1 hq
    obtain ⟨x,h4,rfl⟩:=List.mem_map.1 h2
    exact wG (jM (hi.ent x h4)).1 h3
   ·exact .inr (List.mem_flatMap.2 ⟨x.path,List.mem_map.2 ⟨x,hx,rfl⟩,ha⟩)
theorem J9 {f:Ent → Ent} (hf : ∀ x,(f x).path = x.path) (t:List Ent) (p:qx):qG (t.map f) p = (qG t p).map f:=by
 unfold qG
 rw [List.find?_map]
 congr 2
 funext x
 simp [atP,hf]
theorem ZD {f:Ent → Ent} (hf : ∀ x,(f x).path = x.path) {t:List Ent} (h:qS jj t = true):qS jj (t.map f) = true:=by
 rw [yB] at *
 rw [List.pairwise_map]
 exact h.imp fun {a b} hab=>by rw [hf,hf];exact hab
theorem qbJ {m t:List Ent} (hm:Right m) (ht:Right t) (e:Ent):vF (zu m t e) = true:=by
 have g : ∀ u:List Ent,Right u → ∀ v,zQ u e = some v → vF v = true:=fun u hu v h=>by
  unfold zQ at h
  split at h
  ·cases h
  ·rename_i x hx
   split at h
   ·injection h with h
    rw [← h]
    exact (jM (hu.ent x (xu hx).1)).2.2.2
   ·cases h
 unfold zu
 cases h1:zQ t e with
 | some v=>exact g t ht v h1
 | none =>
   cases h2:zQ m e with
   | some v=>exact g m hm v h2
   | none=>rfl
theorem XB {b m t:List Ent} (hb:Right b) (hm:Right m) (ht:Right t) (h:(xe b m t).2.2 = 0):Right (xe b m t).1:=by
 unfold xe at *
 cases h1:xx b m t with
 | none=>rw [h1] at h;exact absurd (show (2:Int) = 0 from h) (by decide)
 | some s =>
   rw [h1] at h
   simp only at h ⊢
   split at h
   ·exact absurd (show (2:Int) = 0 from h) (by decide)
   ·rename_i h60
    rw [if_neg h60]
    show Right (s.out.map (vD m t))
    obtain ⟨hi,ha⟩:=Qe hb hm ht h1
    refine YH (ZD (f:=vD m t) (fun _=>rfl) hi.rise) (by rw [List.length_map];omega) fun p x hx=>?_
    rw [J9 (f:=vD m t) (fun _=>rfl)] at hx
    obtain ⟨y,hy,rfl⟩:=Option.map_eq_some_iff.1 hx
    obtain ⟨hy1,hy2⟩:=xu hy
    have he:=hi.ent y hy1
    obtain ⟨e1,e2,e3,e4⟩:=jM he
    refine ⟨JO (p:=y.path) e1 (YS he) e3 (qbJ hm ht y),?_⟩
    rw [← hy2]
    by_cases hp:qy y.path = []
    ·exact .inl hp
    ·right
     have hf:=ha y hy1 (qy y.path) (wF.2 ⟨qbA e1 hp,qbB e1⟩)
     obtain ⟨z,hz1,hz2⟩:=W9.1 hf
     exact ⟨vD m t z,by rw [J9 (f:=vD m t) (fun _=>rfl),hz1];rfl,hz2⟩
def qb4 (e:Ent):Ent := { e with ver:=1 }
theorem qab {x:Ent} (h:yP x = 0):zX x.path (yw x) = qb4 x:=by
 obtain ⟨p,f,s,v⟩:=x
 cases f with
 | true =>
   have:=YS h rfl
   simp at this
   subst this
   rfl
 | false=>rfl
theorem QU {m t:List Ent} {s s' : MS} {p x:qx} (h:y8 m t s p x = some s'):s'.cps.length = s.cps.length + 1:=by
 unfold y8 at h
 split at h
 ·cases h
 ·injection h with h
  rw [← h];simp
theorem Vr {m t:List Ent} : ∀ {l:List (qx × qx)} {s s' : MS},Yw m t l s = some s' → s'.cps.length = s.cps.length + l.length
 | [],s,s',h=>by injection h with h;rw [h];rfl
 | g :: l,s,s',h=>by
   unfold Yw at h
   cases h1:y8 m t s g.1 g.2 with
   | none=>rw [h1] at h;cases h
   | some s1 =>
     rw [h1] at h
     have:=Vr h
     have:=QU h1
     simp only [List.length_cons]
     omega
end Go.Proofs.YtnhpclmbhbblbaaGreatDoor
set_option linter.unusedSimpArgs false
set_option linter.unnecessarySimpa false
set_option linter.unusedVariables false
set_option maxHeartbeats 1000000
namespace Go.Proofs.YtnhpclmbhbblbaaGreatDoor
open Go.Ab Go.RowKit
set_option maxRecDepth 10000
attribute [local irreducible] Awp jW jh jn Red qD Go.Ab.Fin qI Rz x4 ji jf ResOk jQ jq yl jg
end Go.Proofs.YtnhpclmbhbblbaaGreatDoor
set_option linter.unusedSimpArgs false
set_option linter.unnecessarySimpa false
set_option linter.unusedVariables false
namespace Go.Proofs.YtnhpclmbhbblbaaGreatDoor
open Go.Op
def vT (s:MS) (p x:qx):Prop:=stT s.out p = ⟨2,x⟩ ∨ ∃ c,c ∈ s.cps ∧ c.path = p ∧ stT s.out c.at_ = ⟨2,x⟩
structure KInv (m t:List Ent) (s:MS):Prop where
 inv:MInv s.out
 cp : ∀ c,c ∈ s.cps → qG m c.at_ = none ∧ qG t c.at_ = none
def kC (m t:List Ent) (a:qx):Prop := ¬ qG m a = none ∨ ¬ qG t a = none
theorem JJ {m t:List Ent} {s s' : MS} {p x:qx} (hi:KInv m t s) (hp:qn p = 0) (hx:x.length ≤ 300) (h:y8 m t s p x = some s') :
  KInv m t s' ∧ vT s' p x ∧ ∀ q y,vT s q y → vT s' q y:=by
 have h0:=(wa hi.inv hp hx h).1
 obtain ⟨q,rfl,h1,h2,h3,h4,h5⟩:=QX hp h
 have hst : ∀ a y,stT s.out a = ⟨2,y⟩ → stT (js s.out ⟨q,false,x,1⟩) a = ⟨2,y⟩:=fun a y ha=>by
  rw [QL hi.inv.rise]
  split
  ·rename_i e
   simp only at e
   subst e
   unfold stT at ha
   rw [h5] at ha
   cases ha
  ·exact ha
 refine ⟨⟨h0,fun c hc=>?_⟩,.inr ⟨⟨p,q⟩,by simp,rfl,?_⟩,fun r y hk=>?_⟩
 ·rcases List.mem_append.1 hc with h6|h6
  ·exact hi.cp c h6
  ·rw [List.mem_singleton.1 h6];exact ⟨h3,h4⟩
 ·show stT (js s.out _) q = _
  rw [QL hi.inv.rise,if_pos rfl];rfl
 ·rcases hk with h6|⟨c,h6,h7,h8⟩
  ·exact .inl (hst _ _ h6)
  ·exact .inr ⟨c,List.mem_append_left _ h6,h7,hst _ _ h8⟩
theorem Vq {m t:List Ent} : ∀ {l:List (qx × qx)} {s s' : MS},KInv m t s → (∀ g,g ∈ l → qn g.1 = 0 ∧ g.2.length ≤ 300) → Yw m t l s = some s' →
  KInv m t s' ∧ (∀ g,g ∈ l → vT s' g.1 g.2) ∧ ∀ q y,vT s q y → vT s' q y
 | [],s,s',hi,_,h=>by
   injection h with h
   subst h
   exact ⟨hi,(fun g hg=>by cases hg),fun _ _ h=>h⟩
 | g :: l,s,s',hi,hg,h=>by
   unfold Yw at h
   cases hq:y8 m t s g.1 g.2 with
   | none=>rw [hq] at h;cases h
   | some s1 =>
     rw [hq] at h
     have h1:=hg g (by simp)
     obtain ⟨a1,a2,a3⟩:=JJ hi h1.1 h1.2 hq
     obtain ⟨b1,b2,b3⟩:=Vq a1 (fun g' hg'=>hg g' (by simp [hg'])) h
     refine ⟨b1,fun g' hg'=>?_,fun q y hk=>b3 q y (a3 q y hk)⟩
     rcases List.mem_cons.1 hg' with rfl|h2
     ·exact b3 _ _ a2
     ·exact b2 g' h2
theorem KM {m t:List Ent} {s s' : MS} {q:qx} (hi:KInv m t s) (hq:qn q = 0) (hs:kC m t q) (h:kN m t s q = some s') :
  KInv m t s' ∧ ∀ r y,vT s r y → vT s' r y:=by
 unfold kN at h
 split at h
 ·injection h with h
  subst h
  exact ⟨hi,fun _ _ h=>h⟩
 ·rename_i h1
  have hne : ∀ c,c ∈ s.cps → ¬ c.at_ = q:=fun c hc e=>by
   obtain ⟨h2,h3⟩:=hi.cp c hc
   rw [e] at h2 h3
   rcases hs with h4|h4
   ·exact h4 h2
   ·exact h4 h3
  have hi1:KInv m t ⟨js s.out ⟨q,true,[],1⟩,s.cps⟩:=⟨Xv hi.inv (JO hq (fun _=>rfl) (by simp) (by decide)),hi.cp⟩
  have hst : ∀ a, ¬ a = q → stT (js s.out ⟨q,true,[],1⟩) a = stT s.out a:=fun a ha=>by rw [QL hi.inv.rise,if_neg ha]
  have hk1 : ∀ r y, ¬ r = q → vT s r y → vT ⟨js s.out ⟨q,true,[],1⟩,s.cps⟩ r y:=fun r y hr hk=>by
   rcases hk with h6|⟨c,h6,h7,h8⟩
   ·exact .inl (by rw [← h6];exact hst r hr)
   ·exact .inr ⟨c,h6,h7,by rw [← h8];exact hst _ (hne c h6)⟩
  have hk2 : ∀ r y,r = q → vT s r y → (stT s.out q = ⟨2,y⟩) ∨ vT ⟨js s.out ⟨q,true,[],1⟩,s.cps⟩ r y:=fun r y hr hk=>by
   rcases hk with h6|⟨c,h6,h7,h8⟩
   ·exact .inl (hr ▸ h6)
   ·exact .inr (.inr ⟨c,h6,h7,by rw [← h8];exact hst _ (hne c h6)⟩)
  split at h
  ·rename_i h2
   have hx:=XV hi.inv (Jw h2)
   obtain ⟨a1,a2,a3⟩:=JJ (s:=⟨js s.out ⟨q,true,[],1⟩,s.cps⟩) hi1 hq hx h
   refine ⟨a1,fun r y hk=>?_⟩
   by_cases hr:r = q
   ·rcases hk2 r y hr hk with h3|h3
    ·rw [h3] at a2;rw [hr];exact a2
    ·exact a3 r y h3
   ·exact a3 r y (hk1 r y hr hk)
  ·rename_i h2
   injection h with h
   subst h
   refine ⟨hi1,fun r y hk=>?_⟩
   by_cases hr:r = q
   ·rcases hk2 r y hr hk with h3|h3
    ·rw [h3] at h2;exact absurd rfl h2
    ·exact h3
   ·exact hk1 r y hr hk
theorem Yh {m t:List Ent} : ∀ {qs:List qx} {s s' : MS},KInv m t s → (∀ q,q ∈ qs → qn q = 0 ∧ kC m t q) → v8 m t qs s = some s' → KInv m t s' ∧ ∀ r y,vT s r y → vT s' r y
 | [],s,s',hi,_,h=>by
   injection h with h
   subst h
   exact ⟨hi,fun _ _ h=>h⟩
 | q :: qs,s,s',hi,hq,h=>by
   unfold v8 at h
   cases h1:kN m t s q with
   | none=>rw [h1] at h;cases h
   | some s1 =>
     rw [h1] at h
     obtain ⟨a1,a2⟩:=KM hi (hq q (by simp)).1 (hq q (by simp)).2 h1
     obtain ⟨b1,b2⟩:=Yh a1 (fun r hr=>hq r (by simp [hr])) h
     exact ⟨b1,fun r y hk=>b2 r y (a2 r y hk)⟩
theorem VE {b x y:Thg} {s:qx}:(x = ⟨2,s⟩ → ¬ b = ⟨2,s⟩ → (kv b x y).1 = ⟨2,s⟩ ∨ (kv b x y).2 = ⟨2,s⟩) ∧ (y = ⟨2,s⟩ → ¬ b = ⟨2,s⟩ → (kv b x y).1 = ⟨2,s⟩ ∨ (kv b x y).2 = ⟨2,s⟩):=by
 constructor
 ·rintro rfl hb
  unfold kv
  by_cases h1:(⟨2,s⟩ : Thg) = y
  ·rw [if_pos h1];exact .inl rfl
  rw [if_neg h1,if_neg (fun e=>hb e.symm)]
  by_cases h3:y = b
  ·rw [if_pos h3];exact .inl rfl
  rw [if_neg h3,if_neg (show ¬ (2:Int) = 1 by decide)]
  by_cases h4:y.kind = 1
  ·rw [if_pos h4];exact .inr rfl
  rw [if_neg h4]
  by_cases h5:y.kind = 2
  ·rw [if_pos ⟨rfl,h5⟩];exact .inr rfl
  rw [if_neg (fun e=>h5 e.2),if_pos rfl];exact .inl rfl
 ·rintro rfl hb
  unfold kv
  by_cases h1:x = ⟨2,s⟩
  ·rw [if_pos h1];exact .inl h1
  rw [if_neg h1]
  by_cases h2:x = b
  ·rw [if_pos h2];exact .inl rfl
  rw [if_neg h2,if_neg (fun e=>hb e.symm)]
  by_cases h3:x.kind = 1
  ·rw [if_pos h3];exact .inr rfl
  rw [if_neg h3,if_neg (by show ¬ (2:Int) = 1;decide)]
  by_cases h5:x.kind = 2
  ·rw [if_pos ⟨h5,rfl⟩];exact .inl rfl
  rw [if_neg (fun e=>h5 e.1),if_neg h5];exact .inl rfl
theorem VY {m t:List Ent} (hm:Right m) (ht:Right t) {p a:qx} (h:kC m t p) (ha:a ∈ q0 p):kC m t a:=by
 obtain ⟨h1,h2⟩:=wF.1 ha
 rcases h with h|h
 ·cases hl:qG m p with
  | none=>exact absurd hl h
  | some x =>
    obtain ⟨h3,h4⟩:=xu hl
    obtain ⟨y,h5,_⟩:=anc hm _ x h3 rfl a (by rw [h4];exact h1) (by rw [h4];exact h2)
    exact .inl (by rw [h5];simp)
 ·cases hl:qG t p with
  | none=>exact absurd hl h
  | some x =>
    obtain ⟨h3,h4⟩:=xu hl
    obtain ⟨y,h5,_⟩:=anc ht _ x h3 rfl a (by rw [h4];exact h1) (by rw [h4];exact h2)
    exact .inr (by rw [h5];simp)
theorem WL {b x y:Thg} (h:¬ (kv b x y).1.kind = 0 ∨ (kv b x y).2.kind = 2):¬ x.kind = 0 ∨ ¬ y.kind = 0:=by
 by_cases hx:x.kind = 0
 ·by_cases hy:y.kind = 0
  ·exfalso
   unfold kv at h
   simp only [hx,hy] at h
   revert h
   (repeat' split)<;>simp_all [noT]
  ·exact .inr hy
 ·exact .inl hx
def Xb (m t:List Ent) (o:List Ent):Prop := ∀ x,x ∈ o → ∀ a,a ∈ q0 x.path → kC m t a
theorem Vs {m t:List Ent} : ∀ {l:List (qx × qx)} {s s' : MS},MInv s.out → Xb m t s.out → (∀ g,g ∈ l → qn g.1 = 0 ∧ g.2.length ≤ 300 ∧ ∀ a,a ∈ q0 g.1 → kC m t a) → Yw m t l s = some s' → Xb m t s'.out
 | [],s,s',_,hi,_,h=>by
   injection h with h
   exact h ▸ hi
 | g :: l,s,s',hv,hi,hg,h=>by
   unfold Yw at h
   cases hq:y8 m t s g.1 g.2 with
   | none=>rw [hq] at h;cases h
   | some s1 =>
     rw [hq] at h
     have h1:=hg g (by simp)
     obtain ⟨a1,a2,a3⟩:=wa hv h1.1 h1.2.1 hq
     refine Vs a1 (fun x hx a ha=>?_) (fun g' hg'=>hg g' (by simp [hg'])) h
     rcases a3 x hx with h2|h2
     ·exact hi x h2 a ha
     ·exact h1.2.2 a (h2 ▸ ha)
theorem VC {b m t:List Ent} {s:MS} (hb:Right b) (hm:Right m) (ht:Right t) (h:xx b m t = some s) {p x:qx} (hx:stT m p = ⟨2,x⟩ ∨ stT t p = ⟨2,x⟩) (hbx:¬ stT b p = ⟨2,x⟩):vT s p x:=by
 unfold xx at h
 cases h1:Yw m t (yy b m t (y4 b m t)) ⟨yK b m t (y4 b m t),[]⟩ with
 | none=>rw [h1] at h;cases h
 | some s1 =>
   rw [h1] at h
   have hg:=z8 hb hm ht
   have hi0:KInv m t ⟨yK b m t (y4 b m t),[]⟩:=⟨Ql hb hm ht,fun c hc=>by cases hc⟩
   obtain ⟨a1,a2,a3⟩:=Vq hi0 hg h1
   obtain ⟨l1,l2⟩:=zM b m t (P:=y4 b m t) (o:=[]) rfl
   have hside : ∀ p,(¬ (yj b m t p).1.kind = 0 ∨ (yj b m t p).2.kind = 2) → kC m t p:=fun p hp=>by
    rcases WL hp with h2|h2
    ·exact .inl fun e=>h2 (Qs.2 e)
    ·exact .inr fun e=>h2 (Qs.2 e)
   have hs0:Xb m t (yK b m t (y4 b m t)):=fun y hy a ha=>by
    have h3:=vy l1 hy
    rw [l2] at h3
    split at h3
    ·rename_i h4
     exact VY hm ht (hside _ (.inl h4.2)) ha
    ·cases h3
   have hs1:Xb m t s1.out:=by
    refine Vs (s:=⟨yK b m t (y4 b m t),[]⟩) (Ql hb hm ht) hs0 (fun g hg'=>⟨(hg g hg').1,(hg g hg').2,fun a ha=>?_⟩) h1
    obtain ⟨q,h2,h3⟩:=List.mem_filterMap.1 hg'
    split at h3
    ·rename_i h4
     injection h3 with h3
     subst h3
     exact VY hm ht (hside q (.inr h4)) ha
    ·cases h3
   have hqs : ∀ q,q ∈ (s1.out.map Ent.path).flatMap q0 → qn q = 0 ∧ kC m t q:=fun q hq=>by
    obtain ⟨p,h2,h3⟩:=List.mem_flatMap.1 hq
    obtain ⟨y,h4,rfl⟩:=List.mem_map.1 h2
    exact ⟨wG (jM (a1.inv.ent y h4)).1 h3,hs1 y h4 q h3⟩
   obtain ⟨b1,b2⟩:=Yh a1 hqs h
   refine b2 p x ?_
   have hP:p ∈ y4 b m t:=VB.2 (by
    rcases hx with h2|h2
    ·right;left;intro e;unfold stT at h2;rw [e] at h2;cases h2
    ·right;right;intro e;unfold stT at h2;rw [e] at h2;cases h2)
   have hk:(yj b m t p).1 = ⟨2,x⟩ ∨ (yj b m t p).2 = ⟨2,x⟩:=by
    rcases hx with h2|h2
    ·exact (VE (b:=stT b p) (x:=stT m p) (y:=stT t p)).1 h2 hbx
    ·exact (VE (b:=stT b p) (x:=stT m p) (y:=stT t p)).2 h2 hbx
   rcases hk with h2|h2
   ·refine a3 p x (.inl ?_)
    show stT (yK b m t (y4 b m t)) p = _
    have h3:qG (yK b m t (y4 b m t)) p = some (zX p (yj b m t p).1):=by
     show qG (List.foldl _ [] _) p = _
     rw [l2,if_pos ⟨hP,by rw [h2];exact (show ¬ (2:Int) = 0 by decide)⟩]
    unfold stT
    rw [h3,h2];rfl
   ·refine a2 (p,x) (List.mem_filterMap.2 ⟨p,hP,?_⟩)
    rw [if_pos (by rw [h2]),h2]
end Go.Proofs.YtnhpclmbhbblbaaGreatDoor
set_option linter.unusedSimpArgs false
set_option linter.unnecessarySimpa false
set_option linter.unusedVariables false
set_option maxHeartbeats 1000000
namespace Go.Proofs.YtnhpclmbhbblbaaGreatDoor
open Go.Ab Go.RowKit
set_option maxRecDepth 10000
attribute [local irreducible] Awp jW jh jn Red qD Go.Ab.Fin qI Rz x4 ji jf ResOk jQ jq yl jg
end Go.Proofs.YtnhpclmbhbblbaaGreatDoor
set_option linter.unusedSimpArgs false
set_option linter.unnecessarySimpa false
set_option linter.unusedVariables false
set_option maxHeartbeats 1000000
namespace Go.Proofs.YtnhpclmbhbblbaaGreatDoor
open Go.Ab Go.RowKit
set_option maxRecDepth 10000
attribute [local irreducible] Awp jW jh jn Red qD Go.Ab.Fin qI Rz x4 ji jf ResOk jQ jq yl jg
end Go.Proofs.YtnhpclmbhbblbaaGreatDoor
set_option linter.unusedSimpArgs false
set_option linter.unnecessarySimpa false
set_option linter.unusedVariables false
set_option maxHeartbeats 1000000
namespace Go.Proofs.YtnhpclmbhbblbaaGreatDoor
open Go.Ab Go.RowKit
set_option maxRecDepth 10000
attribute [local irreducible] Awp jW jh jn Red qD Go.Ab.Fin qI Rz x4 ji jf ResOk jQ jq yl jg
end Go.Proofs.YtnhpclmbhbblbaaGreatDoor
set_option linter.unusedSimpArgs false
set_option linter.unnecessarySimpa false
set_option linter.unusedVariables false
set_option maxHeartbeats 1000000
namespace Go.Proofs.YtnhpclmbhbblbaaGreatDoor
open Go.Ab Go.RowKit
set_option maxRecDepth 10000
attribute [local irreducible] Awp jW jh jn Red qD Go.Ab.Fin qI Rz x4 ji jf ResOk jQ jq yl jg
end Go.Proofs.YtnhpclmbhbblbaaGreatDoor
set_option linter.unusedSimpArgs false
set_option linter.unnecessarySimpa false
set_option linter.unusedVariables false
set_option maxHeartbeats 1000000
namespace Go.Proofs.YtnhpclmbhbblbaaGreatDoor
open Go.Ab Go.RowKit
set_option maxRecDepth 10000
attribute [local irreducible] Awp jW jh jn Red qD Go.Ab.Fin qI Rz x4 ji jf ResOk jQ jq yl jg
end Go.Proofs.YtnhpclmbhbblbaaGreatDoor
set_option linter.unusedSimpArgs false
set_option linter.unnecessarySimpa false
set_option linter.unusedVariables false
set_option maxHeartbeats 1000000
namespace Go.Proofs.YtnhpclmbhbblbaaGreatDoor
open Go.Ab Go.RowKit
set_option maxRecDepth 10000
attribute [local irreducible] Awp jW jh jn Red qD Go.Ab.Fin qI Rz x4 ji jf ResOk jQ jq yl jg
def Kh (v:Int):List Ent → List Chg → Nat → List Ent × Nat × Int
 | t,[],n=>(t,n,0)
 | t,c :: l,n=>if zC t c v = 0 then Kh v (jE t c v) l (n + 1) else ([],n,zC t c v)
def qau (v:Int) (t:List Ent) (l:List Chg):List Ent × Nat × Int :=
 if ¬ qA t = 0 then ([],0,qA t) else if 20 < l.length then ([],0,2) else if vF v = false ∧ 0 < l.length then ([],0,3) else Kh v t l 0
def qbE (r:List Ent × Nat × Int):AV := .tup [qo r.1,.v (.int .i64 (r.2.1:Nat)),.v (.int .i64 r.2.2)]
theorem Ki {v:Int} {t:List Ent} {l:List Chg} {i:Nat} (h:i < l.length):Kh v t (l.drop i) i = if zC t l[i] v = 0 then Kh v (jE t l[i] v) (l.drop (i + 1)) (i + 1) else ([],i,zC t l[i] v):=by
 rw [List.drop_eq_getElem_cons h];rfl
theorem qbK (t:List Ent) (l:List Chg) (v:Int) (hb:EBig t) (hcb:CBig l):x6 C.P 41 [qo t,JN l,.v (.int .i64 v)] (qbE (qau v t l)):=by
 have h1:=JC t hb
 have h2:=JD v
 have hll:=hcb.len
 have hml:(l.map Chg.row).length = l.length:=List.length_map ..
 have hE:qau v t l = if ¬ qA t = 0 then ([],0,qA t) else if 20 < l.length then ([],0,2) else if vF v = false ∧ 0 < l.length then ([],0,3) else Kh v t l 0:=rfl
 by_cases hte:qA t = 0
 ·rw [if_neg (by simp [hte])] at hE
  have hR:=RightE.of hte
  rw [hte] at h1
  have h60:=(kp hte).1
  have h3:=X6 t (by omega)
  by_cases h20:20 < l.length
  ·rw [if_pos h20] at hE
   rw [hE]
   refine qa Tryz.func41 rfl _ Tryz.ntmps41 (Nat.le_of_ble_eq_true rfl) _ Tryz.results41 0 rfl rfl ?_
   repeat' (first|refine qu ?_|(first|(refine yu ?_)|refine xP Tryz.func42 (h1 ..) ?_)|((first|refine qk ?_ ?_|refine qj ?_ ?_|refine xsC ?_ ?_);all_goals (intro hc;have hp:=hc;try simp at hp;try (exfalso;omega)))|refine jc ?_ ?_)
   all_goals try (exfalso;omega)
   all_goals try (exfalso;first|omega|(simp_all;done)|(simp_all;omega))
   all_goals ((exact QP (rs:=[.tmp 6,.tmp 7,.tmp 8])))
  ·rw [if_neg h20] at hE
   by_cases hv:vF v = false ∧ 0 < l.length
   ·rw [if_pos hv] at hE
    rw [hE]
    rw [hv.1] at h2
    refine qa Tryz.func41 rfl _ Tryz.ntmps41 (Nat.le_of_ble_eq_true rfl) _ Tryz.results41 0 rfl rfl ?_
    repeat' (first|refine qu ?_|(first|(refine yu ?_)|refine xP Tryz.func42 (h1 ..) ?_|refine yY Tryz.func73 (h2 ..) ?_)|((first|refine qk ?_ ?_|refine qj ?_ ?_|refine xsC ?_ ?_);all_goals (intro hc;have hp:=hc;try simp at hp;try (exfalso;omega)))|refine jc ?_ ?_)
    all_goals try (exfalso;omega)
    all_goals try (exfalso;first|omega|(simp_all;done)|(simp_all;omega))
    all_goals ((exact QP (rs:=[.tmp 6,.tmp 7,.tmp 8])))
   ·rw [if_neg hv] at hE
    generalize hV:vF v = V at *
    have hv2:V = false → l.length = 0:=fun h=>by
     rcases Nat.eq_zero_or_pos l.length with h4|h4
     ·exact h4
     ·exact absurd ⟨h,h4⟩ hv
    clear hV
    generalize hA:qau v t l = A at *
    clear hA
    refine qa Tryz.func41 rfl _ Tryz.ntmps41 (Nat.le_of_ble_eq_true rfl) _ Tryz.results41 0 rfl rfl ?_
    repeat' (first|refine qu ?_|(first|(refine yu ?_)|refine xP Tryz.func42 (h1 ..) ?_|refine yY Tryz.func73 (h2 ..) ?_|(apply jm Tryz.func75 rfl rfl;intro hIsFn;refine Jq ([]) hIsFn (h3 ..) ?_))|((first|refine qk ?_ ?_|refine qj ?_ ?_|refine xsC ?_ ?_);all_goals (intro hc;have hp:=hc;try simp at hp;try (exfalso;omega)))|refine jc ?_ ?_)
    all_goals try (exfalso;omega)
    all_goals try (exfalso;first|omega|(simp_all;done)|(simp_all;omega))
    all_goals (
     refine Awp.red (Yj 0 rfl (by intro row hrow;obtain ⟨x,_,rfl⟩:=List.mem_map.1 hrow;rfl)) ?_
     refine Awp.red (qbD 0 0 rfl rfl (by simp)) ?_
     (refine Awp.red (jt (ts:=[(0,qo t),(1,JN l),(2,.v (.int .i64 v)),(33,JN l),(34,.v (.int .i64 l.length)),(35,.v (.int .i64 ((0:Nat):Int)))]) ?_) ?_;((repeat (first|exact qp|refine qE ?_|refine ju ?_ ?_))))
     all_goals try (rw [List.length_map];done)
     all_goals try (rw [List.drop_zero,List.take_of_length_le (by simp)];rfl)
     refine jr (fun n σ => ∃ (i:Nat) (u:List Ent),i ≤ l.length ∧ n = l.length - i ∧ (A = Kh v u (l.drop i) i ∧ RightE u) ∧ σ = ⟨[(0,qo u),(1,JN l),(2,.v (.int .i64 v)),(33,JN l),(34,.v (.int .i64 l.length)),(35,.v (.int .i64 (i:Int)))],[],C.nh⟩) l.length ⟨0,t,Nat.zero_le _,rfl,⟨by rw [hE];rfl,hR⟩,rfl⟩ ?_
     rintro n σ ⟨i,u,hi,rfl,⟨hA,hRu⟩,rfl⟩
     by_cases hlt:i < l.length
     ·have hr:=yA (f:=Chg.row) hlt
      have hraw:=Wb u l[i] v hRu (hcb.each _ (List.getElem_mem _))
      rw [Ki hlt] at hA
      have hL:ZB u l[i] v = if zC u l[i] v = 0 then jE u l[i] v else []:=rfl
      by_cases hz:zC u l[i] v = 0
      ·have hRn:=hRu.done hz
       rw [if_pos hz] at hA hL
       rw [hL,hz] at hraw
       generalize jE u l[i] v = U at *
       clear hE hL hz
       repeat' (first|refine qu ?_|(first|refine xP Tryz.func74 (hraw ..) ?_)|((first|refine qk ?_ ?_|refine qj ?_ ?_|refine xsC ?_ ?_);all_goals (intro hc;have hp:=hc;try simp at hp;try (exfalso;omega)))|refine jc ?_ ?_)
       all_goals try (exfalso;omega)
       refine ⟨l.length - (i + 1),_,by omega,jt (ts:=[(0,qo U),(1,JN l),(2,.v (.int .i64 v)),(33,JN l),(34,.v (.int .i64 l.length)),(35,.v (.int .i64 ((i + 1:Nat):Int)))]) ?_,i + 1,U,by omega,rfl,⟨hA,hRn⟩,rfl⟩
       (repeat (first|exact qp|refine qE ?_|refine ju ?_ ?_))
      ·rw [if_neg hz] at hA hL
       rw [hL] at hraw
       rw [hA]
       generalize zC u l[i] v = E at *
       clear hE hL hA
       repeat' (first|refine qu ?_|(first|refine xP Tryz.func74 (hraw ..) ?_)|((first|refine qk ?_ ?_|refine qj ?_ ?_|refine xsC ?_ ?_);all_goals (intro hc;have hp:=hc;try simp at hp;try (exfalso;omega)))|refine jc ?_ ?_)
       all_goals try (exfalso;omega)
       (exact QP (rs:=[.tmp 6,.tmp 7,.tmp 8]))
     obtain rfl:i = l.length:=by omega
     rw [List.drop_length] at hA
     have hA:A = (u,l.length,0):=hA
     rw [hA]
     clear hE hA
     repeat' (first|refine qu ?_|fail|((first|refine qk ?_ ?_|refine qj ?_ ?_|refine xsC ?_ ?_);all_goals (intro hc;have hp:=hc;try simp at hp;try (exfalso;omega)))|refine jc ?_ ?_)
     all_goals try (exfalso;omega)
     (refine xG (rs:=[.tmp 6,.tmp 7,.tmp 8]) ?_;(repeat' (first|exact jl|apply qT|exact je rfl|exact xq|exact kz|apply yC|apply xA|apply yi|apply xy|apply yL|apply xz|refine ky ?_|apply vn));all_goals (rw [List.length_map])))
 ·rw [if_pos hte] at hE
  rw [hE]
  generalize qA t = E at *
  refine qa Tryz.func41 rfl _ Tryz.ntmps41 (Nat.le_of_ble_eq_true rfl) _ Tryz.results41 0 rfl rfl ?_
  repeat' (first|refine qu ?_|(first|(refine yu ?_)|refine xP Tryz.func42 (h1 ..) ?_)|((first|refine qk ?_ ?_|refine qj ?_ ?_|refine xsC ?_ ?_);all_goals (intro hc;have hp:=hc;try simp at hp;try (exfalso;omega)))|refine jc ?_ ?_)
  all_goals try (exfalso;omega)
  all_goals ((exact QP (rs:=[.tmp 6,.tmp 7,.tmp 8])))
end Go.Proofs.YtnhpclmbhbblbaaGreatDoor
set_option linter.unusedSimpArgs false
set_option linter.unnecessarySimpa false
set_option linter.unusedVariables false
set_option maxHeartbeats 1000000
namespace Go.Proofs.YtnhpclmbhbblbaaGreatDoor
open Go.Ab Go.RowKit
set_option maxRecDepth 10000
attribute [local irreducible] Awp jW jh jn Red qD Go.Ab.Fin qI Rz x4 ji jf ResOk jQ jq yl jg
theorem Vb:x6 C.P 14 [] (.v (.bool true)):=by
 have h1:x6 C.P 40 [.sl false [],.agg [.v (.int .i64 1),.v (str [97]),.v (str []),.v (str []),.v (.int .i64 0)],.v (.int .i64 5)] (.tup [qo [⟨[97],true,[],5⟩],.v (.int .i64 0)]):=by
  have h:=qah [] ⟨1,[97],[],[],0⟩ 5 ⟨by simp,by simp⟩ ⟨by simp,by simp,by simp⟩
  rw [show JH [] ⟨1,[97],[],[],0⟩ 5 = [⟨[97],true,[],5⟩] from by decide +kernel,show wz [] ⟨1,[97],[],[],0⟩ 5 = 0 from by decide +kernel] at h
  exact h
 have h2:x6 C.P 41 [qo [⟨[97],true,[],5⟩],.sl false [[.v (.int .i64 2),.v (str [97,47,98]),.v (str []),.v (str [120]),.v (.int .i64 (-1))]],.v (.int .i64 6)] (.tup [qo [⟨[97],true,[],5⟩,⟨[97,47,98],false,[120],6⟩],.v (.int .i64 1),.v (.int .i64 0)]):=by
  have h:=qbK [⟨[97],true,[],5⟩] [⟨2,[97,47,98],[],[120], -1⟩] 6 ⟨by simp [Ent.small],by simp⟩ ⟨by simp [Chg.small],by simp⟩
  rw [show qau 6 [⟨[97],true,[],5⟩] [⟨2,[97,47,98],[],[120], -1⟩] = ([⟨[97],true,[],5⟩,⟨[97,47,98],false,[120],6⟩],1,0) from by decide +kernel] at h
  exact h
 refine qa Tryz.func14 rfl _ Tryz.ntmps14 (Nat.le_of_ble_eq_true rfl) _ Tryz.results14 0 rfl rfl ?_
 repeat' (first|refine qu ?_|(first|(refine yu ?_)|refine xP Tryz.func40 (h1 ..) ?_|refine xP Tryz.func41 (h2 ..) ?_)|((first|refine qk ?_ ?_|refine qj ?_ ?_|refine xsC ?_ ?_);all_goals (intro hc;have hp:=hc;try simp at hp;try (exfalso;omega)))|refine jc ?_ ?_)
 all_goals try (exfalso;simp_all;done)
 all_goals (apply yH;rfl;simp;done)
end Go.Proofs.YtnhpclmbhbblbaaGreatDoor
