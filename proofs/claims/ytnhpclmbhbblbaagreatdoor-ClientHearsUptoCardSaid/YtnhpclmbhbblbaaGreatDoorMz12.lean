import Derived.Test.YtnhpclmbhbblbaaGreatDoorMz11
import Derived.Test.YtnhpclmbhbblbaaGreatDoorMz9
import Derived.Test.YtnhpclmbhbblbaaGreatDoorMz10
set_option linter.unusedSimpArgs false
set_option linter.unnecessarySimpa false
set_option linter.unusedVariables false
namespace Go.Proofs.YtnhpclmbhbblbaaGreatDoor
open Go.Op
structure Right (t:List Ent):Prop where
 len:t.length ≤ 60
 ent : ∀ x,x ∈ t → xg x = 0
 rise:q4 jr t = true
 par : ∀ x,x ∈ t → yw t (qG x.path) = 0
theorem ju {t:List Ent}:qD t = 0 ↔ Right t:=by
 constructor
 ·intro h
  obtain ⟨h1,h2,h3,h4⟩:=QX h
  exact ⟨h1,h2,h3,h4⟩
 ·intro h
  have h1:¬ 60 < t.length:=by have:=h.len;omega
  have h2:t.any (fun x=>decide (yE t x = 5)) = false:=by
   rw [List.any_eq_false];intro x hx
   have:yE t x = 0:=h.par x hx
   simp [this]
  have h3:t.any (fun x=>decide (¬ yE t x = 0)) = false:=by
   rw [List.any_eq_false];intro x hx
   have:yE t x = 0:=h.par x hx
   simp [this]
  unfold qD
  rw [if_neg h1,if_pos (vA.2 h.ent),if_pos h.rise,h2,h3]
  rfl
theorem vg {t:List Ent} {q:qQ}:yw t q = 0 ↔ q = [] ∨ ∃ y,q7 t q = some y ∧ y.fold = true:=by
 unfold yw q7
 by_cases hq:q = []
 ·simp [hq]
 ·rw [if_neg hq]
  cases h:t.find? (atP q) with
  | none=>simp [hq]
  | some x=>cases hf:x.fold<;>simp [hq,hf]
theorem zn {p:qQ} (h:qy p = 0) : ∀ n,n ∈ qo p → n ≠ []:=fun n hn e=>by
 have:=(xy.1 h).1 n hn
 rw [e,VW] at this;cases this
theorem wj {p:qQ} (h:(qo p).dropLast ≠ []):qo (qG p) = (qo p).dropLast:=by
 obtain ⟨h1,h2⟩:=vL p
 rw [← h2]
 exact QM h fun n hn=>QL p n (List.dropLast_subset _ hn)
theorem qfK {p q:qQ} (hp:qy p = 0) (hi:inB p q = true) (hne:¬ q = p):¬ qG p = [] ∧ inB (qG p) q = true ∧ (qo (qG p)).length < (qo p).length:=by
 have hpre:=we.1 hi
 obtain ⟨s,hs⟩:=hpre
 have hsn:s ≠ []:=fun e=>hne (by
  rw [e,List.append_nil] at hs
  rw [← yQ q,hs,yQ])
 have hdl:(qo p).dropLast = qo q ++ s.dropLast:=by rw [← hs,List.dropLast_append_of_ne_nil hsn]
 have hdn:(qo p).dropLast ≠ []:=by
  rw [hdl];intro e
  exact xo q (List.append_eq_nil_iff.1 e).1
 have hpn:=wj hdn
 refine ⟨fun e=>?_,?_,?_⟩
 ·have hm:([]:qQ) ∈ qo (qG p):=by rw [e];simp [qo]
  rw [hpn] at hm
  exact zn hp [] (List.dropLast_subset _ hm) rfl
 ·rw [we,hpn,hdl]
  exact List.prefix_append _ _
 ·rw [hpn,List.length_dropLast]
  have:=names_pos' p
  omega
where names_pos' (p:qQ):0 < (qo p).length:=List.length_pos_iff.2 (xo p)
theorem qeo {p:qQ} (hp:qy p = 0):¬ qG p = p:=fun e=>by
 obtain ⟨h1,h2⟩:=vL p
 have h3:(qo p).dropLast ≠ [] ∨ (qo p).dropLast = []:=(Decidable.em _).symm
 rcases h3 with h3|h3
 ·have:=wj h3
  rw [e] at this
  have hl:=congrArg List.length this
  rw [List.length_dropLast] at hl
  have:=List.length_pos_iff.2 (xo p)
  omega
 ·rw [h3] at h2
  have:p = []:=by rw [← e, ← h2];rfl
  subst this
  exact zn hp [] (by simp [qo]) rfl
theorem KM {p:qQ} (hp:qy p = 0) (hne:¬ qG p = []):inB p (qG p) = true:=by
 obtain ⟨h1,h2⟩:=vL p
 have hdn:(qo p).dropLast ≠ []:=fun e=>hne (by rw [← h2,e];rfl)
 rw [we,wj hdn]
 exact List.dropLast_prefix _
theorem anc {t:List Ent} (h:Right t) : ∀ (n:Nat) (x:Ent),x ∈ t → (qo x.path).length = n → ∀ q,inB x.path q = true → ¬ q = x.path → ∃ y,q7 t q = some y ∧ y.fold = true:=by
 intro n
 induction n using Nat.strongRecOn with
 | _ n ih =>
   intro x hx hn q hi hne
   have hpe:=(j5 (h.ent x hx)).1
   obtain ⟨h1,h2,h3⟩:=qfK hpe hi hne
   rcases vg.1 (h.par x hx) with h4|⟨y,h4,h5⟩
   ·exact absurd h4 h1
   ·obtain ⟨h6,h7⟩:=yV h4
    by_cases hq:q = qG x.path
    ·subst hq;exact ⟨y,h4,h5⟩
    ·exact ih (qo y.path).length (by rw [h7];omega) y h6 rfl q (by rw [h7];exact h2) (by rw [h7];exact hq)
theorem qfx {t:List Ent} (h:Right t) {q p:qQ} (hq:q7 t q = none) (hi:inB p q = true):q7 t p = none:=by
 cases hl:q7 t p with
 | none=>rfl
 | some x =>
   obtain ⟨h1,h2⟩:=yV hl
   by_cases e:q = p
   ·subst e;rw [hq] at hl;cases hl
   ·obtain ⟨y,h3,_⟩:=anc h _ x h1 rfl q (by rw [h2];exact hi) (by rw [h2];exact e)
    rw [hq] at h3;cases h3
theorem JZ {u:List Ent} (hs:q4 jr u = true) (hl:u.length ≤ 60) (h : ∀ p x,q7 u p = some x → xg x = 0 ∧ (qG p = [] ∨ ∃ y,q7 u (qG p) = some y ∧ y.fold = true)):Right u :=
 ⟨hl,fun x hx=>(h _ x (wB hs hx)).1,hs,fun x hx=>vg.2 (h _ x (wB hs hx)).2⟩
theorem qee {t:List Ent} {c:Chg} (h:zN t c = 0):yw t (qG (jQ c)) = 0 ∧ zD t c = 0 ∧ kH t c = 0 ∧ yo t c = 0:=by
 unfold zN at h
 split at h
 ·contradiction
 ·split at h
  ·contradiction
  ·split at h
   ·contradiction
   ·exact ⟨by omega,by omega,by omega,h⟩
theorem qet {t:List Ent} {c:Chg} {v:Int} (h:zB t c v = 0):yD c = 0 ∧ zN t c = 0 ∧ ym t c v = 0:=by
 unfold zB at h
 split at h
 ·contradiction
 ·split at h
  ·contradiction
  ·exact ⟨by omega,by omega,h⟩
def Yq (c:Chg) (p:qQ):qQ:=c.path ++ p.drop c.to.length
theorem qbE {c:Chg} {p:qQ} (h:inB p c.to = true) : ∃ r,p = c.to ++ r ∧ Yq c p = c.path ++ r ∧ inB (Yq c p) c.path = true ∧ (r = [] ∨ r.head? = some 47):=by
 obtain ⟨r,rfl,hr⟩:=zw.1 h
 have hb:Yq c (c.to ++ r) = c.path ++ r:=by simp [Yq]
 exact ⟨r,rfl,hb,by rw [hb];exact zw.2 ⟨r,rfl,hr⟩,hr⟩
theorem VS {t:List Ent} {c:Chg} {v:Int} {y:Ent} (h:y ∈ jF t c v) : ∃ x r,x ∈ t ∧ x.path = c.path ++ r ∧ (r = [] ∨ r.head? = some 47) ∧ y = xh c v x ∧ y.path = c.to ++ r:=by
 obtain ⟨x,hx,rfl⟩:=List.mem_map.1 h
 obtain ⟨hx1,hx2⟩:=List.mem_filter.1 hx
 obtain ⟨r,hr,hr2⟩:=zw.1 hx2
 exact ⟨x,r,hx1,hr,hr2,rfl,by simp [xh,hr]⟩
theorem qcy {t:List Ent} {c:Chg} {v:Int} (hs:q4 jr t = true) (p:qQ):q7 (jF t c v) p = if inB p c.to = true then (q7 t (Yq c p)).map (xh c v) else none:=by
 split
 ·rename_i h
  obtain ⟨r,rfl,hb,hbi,hr⟩:=qbE (c:=c) h
  rw [hb] at hbi ⊢
  cases hl:q7 t (c.path ++ r) with
  | none =>
    rw [Option.map_none,za]
    intro y hy e
    obtain ⟨x,r',h1,h2,_,_,h3⟩:=VS hy
    rw [h3] at e
    have:=List.append_cancel_left e
    subst this
    exact za.1 hl x h1 h2
  | some x =>
    obtain ⟨h1,h2⟩:=yV hl
    rw [Option.map_some]
    have hm:xh c v x ∈ jF t c v:=List.mem_map.2 ⟨x,List.mem_filter.2 ⟨h1,by unfold zV;rw [h2];exact hbi⟩,rfl⟩
    have hp:(xh c v x).path = c.to ++ r:=by simp [xh,h2]
    cases hf:q7 (jF t c v) (c.to ++ r) with
    | none=>exact absurd hp (za.1 hf _ hm)
    | some y =>
      obtain ⟨h3,h4⟩:=yV hf
      obtain ⟨x',r',h5,h6,_,h7,h8⟩:=VS h3
      rw [h8] at h4
      have:=List.append_cancel_left h4
      subst this
      rw [h7,qaf hs h1 h5 (by rw [h2,h6])]
 ·rename_i h
  rw [za]
  intro y hy e
  obtain ⟨x,r,h1,h2,h3,_,h4⟩:=VS hy
  exact h (zw.2 ⟨r,by rw [← e,h4],h3⟩)
theorem qaY {t:List Ent} {c:Chg} {v:Int} (hs:q4 jr t = true):(jF t c v).Pairwise fun a b => ¬ a.path = b.path:=by
 unfold jF
 rw [List.pairwise_map]
 have h1:(t.filter (zV c.path)).Pairwise (fun a b=>bytesLess a.path b.path = true):=(xB.1 hs).sublist List.filter_sublist
 refine h1.imp_of_mem fun {a b} ha hb hlt=>?_
 obtain ⟨r,hr,_⟩:=zw.1 (List.mem_filter.1 ha).2
 obtain ⟨s,hs',_⟩:=zw.1 (List.mem_filter.1 hb).2
 intro e
 simp only [xh,hr,hs',List.drop_left] at e
 have:=List.append_cancel_left e
 rw [hr,hs',this,zj] at hlt
 cases hlt
theorem qcz {t:List Ent} {c:Chg} {v:Int} (h:Right t) (hk:c.kind = 3) (hto:q7 t c.to = none) (p:qQ):q7 (jy t c v) p = if inB p c.to = true then (q7 t (Yq c p)).map (xh c v) else if inB p c.path = true then none else q7 t p:=by
 have hD:jy t c v = (jF t c v).foldl jN (j4 (zV c.path) t):=by simp [jy,hk]
 rw [hD,XQ (kc h.rise) (qaY h.rise),qcy h.rise,Xw]
 by_cases hi:inB p c.to = true
 ·rw [if_pos hi,if_pos hi]
  cases hl:q7 t (Yq c p) with
  | some x=>rfl
  | none =>
    rw [Option.map_none]
    have:=qfx h hto hi
    simp [this]
 ·rw [if_neg hi,if_neg hi]
theorem qfJ {a r:qQ} : ∃ s,(∀ b:qQ,qG (b ++ 47 :: r) = b ++ s) ∧ (s = [] ∨ s.head? = some 47):=by
 rcases Qp (c:=47) r with h|⟨r1,r2,rfl,h⟩
 ·exact ⟨[],fun b=>by rw [(JK h).1];simp,.inl rfl⟩
 ·refine ⟨47 :: r1,fun b=>?_,.inr rfl⟩
  have:=(JK (a:=b ++ 47 :: r1) h).1
  rw [← this];simp
theorem qdD {c:Chg} (h:yD c = 0):c.text.length ≤ 300:=by
 have:=(yS h).2.2.2.2
 unfold kt at this
 split at this
 ·exact absurd this (by decide)
 ·split at this
  ·exact absurd this (by decide)
  ·omega
theorem J8 {p:qQ} {f:Bool} {s:qQ} {v:Int} (h1:qy p = 0) (h2:f = true → s = []) (h3:s.length ≤ 300) (h4:vH v = true):xg ⟨p,f,s,v⟩ = 0:=by
 unfold xg
 simp only
 rw [if_pos h1,if_neg (fun e=>e.2 (h2 e.1)),if_neg (by omega),if_pos h4]
theorem qaU {t:List Ent} {c:Chg} {v:Int} (h:Right t) (hv:vH v = true) (hr:zB t c v = 0):Right (jy t c v):=by
 obtain ⟨hc0,hm0,hd0⟩:=qet hr
 obtain ⟨k1,k2,hpe,hte, -⟩:=yS hc0
 obtain ⟨hf,hi,hmv, -⟩:=qee hm0
 obtain ⟨hb,h60⟩:=Kx hd0
 have hs:=Yt (c:=c) (v:=v) h.rise
 have htx:=qdD hc0
 refine JZ hs h60 fun p x hx=>?_
 by_cases e1:c.kind = 1
 ·have hD:jy t c v = jN t ⟨c.path,true,[],v⟩:=by simp [jy,e1]
  have hg:jQ c = c.path:=by simp [jQ,e1]
  rw [hg] at hf
  rw [hD,kf h.rise] at hx
  have key : ∀ q,(∃ y,q7 t q = some y ∧ y.fold = true) → ∃ y,q7 (jy t c v) q = some y ∧ y.fold = true:=fun q ⟨y,h1,h2⟩=>by
   rw [hD,kf h.rise]
   split
   ·exact ⟨_,rfl,rfl⟩
   ·exact ⟨y,h1,h2⟩
  split at hx
  ·rename_i hp
   injection hx with hx
   subst hx;subst hp
   exact ⟨J8 hpe (fun _=>rfl) (by simp) hv,(vg.1 hf).imp id (key _)⟩
  ·obtain ⟨h1,h2⟩:=yV hx
   refine ⟨h.ent x h1,?_⟩
   have:=vg.1 (h.par x h1)
   rw [h2] at this
   exact this.imp id (key _)
 ·by_cases e2:c.kind = 2
  ·have hD:jy t c v = jN t ⟨c.path,false,c.text,v⟩:=by simp [jy,e2]
   have hg:jQ c = c.path:=by simp [jQ,e2]
   rw [hg] at hf
   rw [hD,kf h.rise] at hx
   have hfa : ∀ y,q7 t c.path = some y → y.fold = false:=fun y hy=>by
    unfold zD at hi
    rw [if_neg e1,if_pos e2] at hi
    unfold vn at hi
    rw [show t.find? (atP c.path) = some y from hy] at hi
    cases hyf:y.fold with
    | false=>rfl
    | true=>simp [hyf] at hi
   have key : ∀ q,(∃ y,q7 t q = some y ∧ y.fold = true) → ∃ y,q7 (jy t c v) q = some y ∧ y.fold = true:=fun q ⟨y,h1,h2⟩=>by
    rw [hD,kf h.rise]
    split
    ·rename_i e
     simp only at e
     rw [e] at h1
     rw [hfa y h1] at h2;cases h2
    ·exact ⟨y,h1,h2⟩
   split at hx
   ·rename_i hp
    injection hx with hx
    subst hx;subst hp
    exact ⟨J8 hpe (fun e=>by cases e) htx hv,(vg.1 hf).imp id (key _)⟩
   ·obtain ⟨h1,h2⟩:=yV hx
    refine ⟨h.ent x h1,?_⟩
    have:=vg.1 (h.par x h1)
    rw [h2] at this
    exact this.imp id (key _)
  ·by_cases e4:c.kind = 4
   ·have hD:jy t c v = j4 (zV c.path) t:=by simp [jy,e4]
    rw [hD,Xw] at hx
    split at hx
    ·cases hx
    ·rename_i hin
     obtain ⟨h1,h2⟩:=yV hx
     refine ⟨h.ent x h1,?_⟩
     have hxe:=(j5 (h.ent x h1)).1
     have:=vg.1 (h.par x h1)
     rw [h2] at this hxe
     rcases this with h3|⟨y,h3,h4⟩
     ·exact .inl h3
     ·refine .inr ⟨y,?_,h4⟩
      rw [hD,Xw,if_neg]
      ·exact h3
      ·intro h5
       have hne:¬ qG p = []:=fun e=>by
        rw [e] at h3
        obtain ⟨h6,h7⟩:=yV h3
        have:=(j5 (h.ent y h6)).1
        rw [h7] at this
        exact zn this [] (by simp [qo]) rfl
       exact hin (JE (KM hxe hne) h5)
   ·have e3:c.kind = 3:=by omega
    have hpt:=hte e3
    have hg:jQ c = c.to:=by simp [jQ,e3]
    rw [hg] at hf
    have hM:kH t c = if inB c.to c.path = true then 3 else if jW t c.to = true then 6 else 0:=by unfold kH;rw [if_pos e3]
    rw [hmv] at hM
    have hin0:inB c.to c.path = false:=by
     cases h0:inB c.to c.path with
     | true=>rw [h0] at hM;simp at hM
     | false=>rfl
    rw [hin0,if_neg (by decide)] at hM
    have hhit:jW t c.to = false:=by
     cases h0:jW t c.to with
     | true=>rw [h0] at hM;simp at hM
     | false=>rfl
    have hto:q7 t c.to = none:=(xK hhit).1
    have hlm:=qcz (v:=v) h e3 hto
    rw [hlm] at hx
    have nonil : ∀ q y,q7 t q = some y → ¬ q = []:=fun q y hy e=>by
     obtain ⟨h6,h7⟩:=yV hy
     have:=(j5 (h.ent y h6)).1
     rw [h7,e] at this
     exact zn this [] (by simp [qo]) rfl
    split at hx
    ·rename_i hi2
     obtain ⟨r,rfl,hb2,hbi,hr2⟩:=qbE (c:=c) hi2
     rw [hb2] at hx hbi
     obtain ⟨x0,hx0,rfl⟩:=Option.map_eq_some_iff.1 hx
     obtain ⟨h1,h2⟩:=yV hx0
     have he0:=j5 (h.ent x0 h1)
     refine ⟨?_,?_⟩
     ·have hpm:qy (xh c v x0).path = 0:=by
       refine YP he0.1 hpe hpt (by rw [h2];exact hbi) ?_
       simp only [xe,e3,decide_true,Bool.true_and,List.any_eq_false] at hb
       simpa using hb x0 (List.mem_filter.2 ⟨h1,by unfold zV;rw [h2];exact hbi⟩)
      refine J8 hpm (fun e=>?_) he0.2.2.1 ?_
      ·cases hs0:x0.text with
       | nil=>rfl
       | cons a s=>exact absurd ⟨e,by rw [hs0];simp⟩ he0.2.1
      ·split
       ·exact hv
       ·exact he0.2.2.2
     ·rcases hr2 with rfl|hr2
      ·rw [List.append_nil]
       rcases vg.1 hf with h3|⟨y,h3,h4⟩
       ·exact .inl h3
       ·refine .inr ⟨y,?_,h4⟩
        have hne:=nonil _ y h3
        have hpi:=KM hpt hne
        rw [hlm,if_neg,if_neg]
        ·exact h3
        ·intro h5
         have:=JE hpi h5
         rw [hin0] at this;cases this
        ·intro h5
         exact qeo hpt (qeb h5 hpi)
      ·cases r with
       | nil=>cases hr2
       | cons a r =>
         simp at hr2
         subst hr2
         obtain ⟨s,hs1,hs2⟩:=qfJ (a:=c.to) (r:=r)
         have hp0:=vg.1 (h.par x0 h1)
         rw [h2,hs1 c.path] at hp0
         rcases hp0 with h3|⟨y,h3,h4⟩
         ·have:c.path = []:=(List.append_eq_nil_iff.1 h3).1
          rw [this] at hpe
          exact absurd rfl (zn hpe [] (by simp [qo]))
         ·refine .inr ⟨xh c v y,?_,h4⟩
          have hin3:inB (c.to ++ s) c.to = true:=zw.2 ⟨s,rfl,hs2⟩
          rw [hs1 c.to,hlm,if_pos hin3,show Yq c (c.to ++ s) = c.path ++ s from by simp [Yq],h3]
          rfl
    ·rename_i hi2
     split at hx
     ·cases hx
     ·rename_i hi3
      obtain ⟨h1,h2⟩:=yV hx
      refine ⟨h.ent x h1,?_⟩
      have hxe:=(j5 (h.ent x h1)).1
      have:=vg.1 (h.par x h1)
      rw [h2] at this hxe
      rcases this with h3|⟨y,h3,h4⟩
      ·exact .inl h3
      ·have hpi:=KM hxe (nonil _ y h3)
       refine .inr ⟨y,?_,h4⟩
       rw [hlm,if_neg (fun h5=>hi2 (JE hpi h5)),if_neg (fun h5=>hi3 (JE hpi h5))]
       exact h3
theorem Right.big {t:List Ent} (h:Right t):EBig t:=⟨fun x hx=>by
 have h1:=j5 (h.ent x hx)
 have h2:=qV h1.1
 exact ⟨by omega,by omega⟩,by have:=h.len;omega⟩
end Go.Proofs.YtnhpclmbhbblbaaGreatDoor
set_option linter.unusedSimpArgs false
set_option linter.unnecessarySimpa false
set_option linter.unusedVariables false
set_option maxHeartbeats 1000000
namespace Go.Proofs.YtnhpclmbhbblbaaGreatDoor
open Go.Ab Go.RowKit
set_option maxRecDepth 10000
attribute [local irreducible] Awp yl jE jl Red qX Go.Ab.Fin qW Rz vl jj ji ResOk jV jz yb jv
def VZ (a b:Ent):Bool:=decide (a.path = b.path) && decide (a.fold = b.fold) && decide (a.text = b.text)
theorem qgm (a b:Ent):yO C.P 105 [.agg a.row,.agg b.row] (.v (.bool (VZ a b))):=by
 have hE:VZ a b = (decide (a.path = b.path) && decide (a.fold = b.fold) && decide (a.text = b.text)):=rfl
 generalize VZ a b = E at *
 refine qa Tryz.func105 rfl _ Tryz.ntmps105 (Nat.le_of_ble_eq_true rfl) _ Tryz.results105 0 rfl rfl ?_
 repeat' (first|refine qm ?_|(first|(refine W0 ?_))|((first|refine qd ?_ ?_|refine qc ?_ ?_|refine xsC ?_ ?_);all_goals (intro hc;have hp:=hc;try simp at hp;try (exfalso;omega)))|refine qO ?_ ?_)
 all_goals (apply jB;rfl;rw [hE];simp_all)
end Go.Proofs.YtnhpclmbhbblbaaGreatDoor
set_option linter.unusedSimpArgs false
set_option linter.unnecessarySimpa false
set_option linter.unusedVariables false
set_option maxHeartbeats 1000000
namespace Go.Proofs.YtnhpclmbhbblbaaGreatDoor
open Go.Ab Go.RowKit
set_option maxRecDepth 10000
attribute [local irreducible] Awp yl jE jl Red qX Go.Ab.Fin qW Rz vl jj ji ResOk jV jz yb jv
theorem qdl (p:qQ → Bool) (g:FuncId) (hg:IsFn C.P g) (cap:List AV) (hcap:AV.pure.pureL cap = true) (l:List (qQ)) (hl:l.length ≤ 1000000) (hc : ∀ s,s ∈ l → yO C.P g ((AV.v (str s)) :: cap) (.v (.bool (p s)))) :
  yO C.P 127 [.sl false (l.map qN),.clo (.func g) [] cap] (.v (.int .i64 (xa p l))):=by
 refine qa Tryz.func127 rfl _ Tryz.ntmps127 (Nat.le_of_ble_eq_true rfl) _ Tryz.results127 0 rfl rfl ?_
 repeat' (first|refine qm ?_|fail|((first|refine xsC ?_ ?_);all_goals (intro hc;have hp:=hc;try simp at hp;try (exfalso;omega)))|refine qO ?_ ?_)
 (refine Awp.red (qv (ts:=[(0,.sl false (l.map qN)),(1,.clo (.func g) [] cap),(7,.v (.int .i64 l.length)),(8,.v (.int .i64 ((0:Nat):Int)))]) ?_) ?_;((repeat (first|exact qg|refine qn ?_|refine qS ?_ ?_))))
 all_goals try (rw [List.length_map];done)
 refine qP (fun n σ => ∃ i:Nat,i ≤ l.length ∧ n = l.length - i ∧ (∀ s,s ∈ l.take i → p s = false) ∧ σ = ⟨[(0,.sl false (l.map qN)),(1,.clo (.func g) [] cap),(7,.v (.int .i64 l.length)),(8,.v (.int .i64 (i:Int)))],[],C.nh⟩) l.length ⟨0,Nat.zero_le _,rfl,(by simp),rfl⟩ ?_
 rintro n σ ⟨i,hi,rfl,hsofar,rfl⟩
 by_cases hlt:i < l.length
 ·have hr:=js (f:=qN) hlt
  have hci:=hc l[i] (List.getElem_mem _)
  repeat' (first|refine qm ?_|(first|(apply qf;apply Ja [];rfl;exact hg;exact hci;(case hz=>exact qH (q8 rfl) (Y7 hcap));(case hfl=>rfl);(case hN=>exact nle rfl)))|((first|refine xsC ?_ ?_);all_goals (intro hc;have hp:=hc;try simp at hp;try (exfalso;omega)))|refine qO ?_ ?_)
  all_goals try (exfalso;omega)
  ·apply jL
   rfl
   exact (Jd hlt hsofar hp).symm
  ·refine ⟨l.length - (i + 1),_,by omega,qv (ts:=[(0,.sl false (l.map qN)),(1,.clo (.func g) [] cap),(7,.v (.int .i64 l.length)),(8,.v (.int .i64 ((i + 1:Nat):Int)))]) ?_,i + 1,by omega,rfl,jU hlt hsofar hp,rfl⟩;((repeat (first|exact qg|refine qn ?_|refine qS ?_ ?_)))
 obtain rfl:i = l.length:=by omega
 repeat' (first|refine qm ?_|fail|((first|refine xsC ?_ ?_);all_goals (intro hc;have hp:=hc;try simp at hp;try (exfalso;omega)))|refine qO ?_ ?_)
 all_goals try (exfalso;omega)
 apply jL
 rfl
 exact (wy fun s hs=>hsofar s (by rw [List.take_length];exact hs)).symm
theorem Wi (p:qQ → Bool) (g:FuncId) (hg:IsFn C.P g) (cap:List AV) (hcap:AV.pure.pureL cap = true) (l:List (qQ)) (hl:l.length ≤ 1000000) (hc : ∀ s,s ∈ l → yO C.P g ((AV.v (str s)) :: cap) (.v (.bool (p s)))) :
  yO C.P 102 [.sl false (l.map qN),.clo (.func g) [] cap] (.v (.bool (l.any p))):=by
 have hidx:=qdl p g hg cap hcap l hl hc
 refine qa Tryz.func102 rfl _ Tryz.ntmps102 (Nat.le_of_ble_eq_true rfl) _ Tryz.results102 0 rfl rfl ?_
 repeat' (first|refine qm ?_|(first|(apply qf;apply yu [];exact j1 Tryz.func127 rfl rfl;exact hidx;(case hz=>exact qH (q8 rfl) (qH (w3 hcap) q5));(case hfl=>rfl);(case hN=>exact nle rfl)))|((first|refine xsC ?_ ?_);all_goals (intro hc;have hp:=hc;try simp at hp;try (exfalso;omega)))|refine qO ?_ ?_)
 apply jB
 rfl
 rw [← Xr]
def X7 (b:List Ent) (x:Ent):Bool:=match b.find? (atP x.path) with|none=>true|some y=>decide (¬ y.fold = x.fold)
def ww (b:List Ent) (g:List qQ) (x:Ent):List qQ:=if (g.any fun p=>inB x.path p) = true then g else if X7 b x = true then g ++ [x.path] else g
def jS (a b:List Ent):List qQ:=a.foldl (ww b) []
def Q9 (p:qQ):Chg:=⟨4,p,[],[], -1⟩
def Qi (x:Ent):Chg:=⟨if x.fold = true then 1 else 2,x.path,[],x.text, -1⟩
def XZ (a:List Ent) (x:Ent):Bool:=match a.find? (atP x.path) with|some y=>VZ y x|none=>false
def KR (a b:List Ent):List Chg:=(jS a b).map Q9 ++ (b.filter fun x => !XZ a x).map Qi
theorem qaZ {a b:List Ent} {i:Nat} (h:i < a.length):jS (a.take (i + 1)) b = ww b (jS (a.take i) b) a[i]:=by
 unfold jS
 rw [List.take_succ_eq_append_getElem h,List.foldl_append];rfl
theorem ZZ (a b:List Ent):(jS a b).length ≤ a.length:=by
 have : ∀ (l:List Ent) (g:List qQ),(l.foldl (ww b) g).length ≤ g.length + l.length:=by
  intro l
  induction l with
  | nil=>intro g;simp
  | cons x l ih =>
    intro g
    have h1:=ih (ww b g x)
    have h2:(ww b g x).length ≤ g.length + 1:=by unfold ww;split<;>(try split)<;>simp
    simp only [List.foldl_cons,List.length_cons];omega
 have:=this a []
 simpa [jS] using this
def vP (a b:List Ent) (i:Nat):List Chg:=(jS a b).map Q9 ++ ((b.take i).filter fun x => !XZ a x).map Qi
theorem qes {a b:List Ent} {i:Nat} (h:i < b.length):vP a b (i + 1) = if XZ a b[i] = true then vP a b i else vP a b i ++ [Qi b[i]]:=by
 unfold vP
 rw [List.take_succ_eq_append_getElem h,List.filter_append]
 cases hs:XZ a b[i]<;>simp [hs]
theorem qgq (x:Ent) (p:qQ) (hp:p.length ≤ 140737488355328):yO C.P 103 [.v (str p),.fp [x.row] 0 0] (.v (.bool (inB x.path p))):=by
 have hin:=qaH x.path p hp
 refine qa Tryz.func103 rfl _ Tryz.ntmps103 (Nat.le_of_ble_eq_true rfl) _ Tryz.results103 0 rfl rfl ?_
 repeat' (first|refine qm ?_|(first|refine jc Tryz.func104 (hin ..) ?_)|((first|refine xsC ?_ ?_);all_goals (intro hc;have hp:=hc;try simp at hp;try (exfalso;omega)))|refine qO ?_ ?_)
 all_goals (apply jB;rfl;rfl)
set_option maxHeartbeats 1600000 in
theorem qgr (a b:List Ent) (hla:a.length ≤ 1000000) (hlb:b.length ≤ 1000000) (hea : ∀ x,x ∈ a → x.small) (hsa:q4 jr a = true) (hsb:q4 jr b = true) :
  qW C.P 80 [qb a,qb b] [] (.os 0 0 (KR a b).length) [.own false 5 ((KR a b).map Chg.row)]:=by
 refine qa Tryz.func80 rfl _ Tryz.ntmps80 (Nat.le_of_ble_eq_true rfl) _ Tryz.results80 0 rfl rfl ?_
 repeat' (first|refine qm ?_|fail|((first|refine qd ?_ ?_|refine qc ?_ ?_|refine xsC ?_ ?_);all_goals (intro hc;have hp:=hc;try simp at hp;try (exfalso;omega)))|refine qO ?_ ?_)
 refine Awp.red (vX 5 5 rfl (Nat.zero_le _)) ?_
 refine Awp.red (vX 6 1 rfl (Nat.zero_le _)) ?_
 (refine Awp.red (qC (τ:=⟨[(0,qb a),(1,qb b),(5,.os 0 0 0),(6,.os 1 0 0),(16,qb a),(17,.v (.int .i64 a.length)),(18,.v (.int .i64 ((0:Nat):Int)))],[(0,.own false 5 []),(1,.own false 1 [])],2⟩) [(0,0),(1,1)] rfl ?gts ?ghs) ?gmain;(case gts=>(repeat (first|exact qg|refine qn ?_|refine ye ?_|refine vj ?_|refine qS ?_ ?_));all_goals (rw [List.length_map]));(case ghs=>(repeat (first|exact qj|refine yA ?_|refine q9 ?_ ?_))))
 refine qP (fun n σ => ∃ i:Nat,i ≤ a.length ∧ n = a.length - i ∧ (∀ p,p ∈ jS (a.take i) b → p.length ≤ 1000000000) ∧ σ = ⟨[(0,qb a),(1,qb b),(5,.os 0 0 (jS (a.take i) b).length),(6,.os 1 0 (jS (a.take i) b).length),(16,qb a),(17,.v (.int .i64 a.length)),(18,.v (.int .i64 (i:Int)))],[(0,.own false 5 ((jS (a.take i) b).map fun p=>(Q9 p).row)),(1,.own false 1 ((jS (a.take i) b).map qN))],2⟩) a.length ⟨0,Nat.zero_le _,rfl,(by simp [jS]),rfl⟩ ?_
 rintro n σ ⟨i,hi,rfl,hsofar,rfl⟩
 have hgl:=ZZ (a.take i) b
 have htl:(a.take i).length ≤ a.length:=by simp;omega
 by_cases hlt:i < a.length
 ·have hr:=js (f:=Ent.row) hlt
  have hsm:=hea a[i] (List.getElem_mem _)
  have hgs := @qaZ a b i hlt
  have hgg:ww b (jS (a.take i) b) a[i] = if ((jS (a.take i) b).any fun p=>inB a[i].path p) = true then jS (a.take i) b else if X7 b a[i] = true then jS (a.take i) b ++ [a[i].path] else jS (a.take i) b:=rfl
  rw [hgg] at hgs
  generalize jS (a.take i) b = G at *
  have hcon:=Wi (fun p=>inB a[i].path p) 103 (j1 Tryz.func103 rfl rfl) [.fp [a[i].row] 0 0] rfl G (by omega) (fun p hp=>qgq a[i] p (by have:=hsofar p hp;omega))
  have hat:=We b a[i].path (by omega) hsb
  have hdf:X7 b a[i] = match b.find? (atP a[i].path) with|none=>true|some y=>decide (¬ y.fold = a[i].fold):=rfl
  have hng : ∀ p,p ∈ G ++ [a[i].path] → p.length ≤ 1000000000:=fun p hp=>by
   rcases List.mem_append.1 hp with hp|hp
   ·exact hsofar p hp
   ·rw [List.mem_singleton.1 hp];exact hsm.1
  generalize X7 b a[i] = D at *
  generalize (G.any fun p=>inB a[i].path p) = A at *
  cases hh:jW b a[i].path with
  | true =>
    obtain ⟨hk,hpe,hfi, -⟩:=zu hsb hh
    rw [hh] at hat
    rw [hfi] at hdf
    have hrb:=js (f:=Ent.row) hk
    generalize y0 b a[i].path = k at *
    repeat' (first|refine qm ?_|(first|(refine jM ?_)|(refine yg ?_)|refine xsQ Tryz.func63 (hat ..) ?_|(apply qf;apply yu ([1,2]);exact j1 Tryz.func102 rfl rfl;exact hcon;(case hz=>(refine qH (jY rfl (by simp) (qE fun _=>rfl)) (qH (jJ q5 (qH (qat rfl (by simp) (zo (fun row hrow=>by rw [List.mem_singleton.1 hrow];rfl))) q5)) q5)));(case hfl=>rfl);(case hN=>exact nle rfl))|(refine W0 ?_))|((first|refine qd ?_ ?_|refine qc ?_ ?_|refine xsC ?_ ?_);all_goals (intro hc;have hp:=hc;try simp at hp;try (exfalso;omega)))|refine qO ?_ ?_)
    all_goals try (exfalso;omega)
    all_goals first
     | (have hg2:jS (a.take (i + 1)) b = G:=(by rw [hgs];simp_all);refine ⟨a.length - (i + 1),_,by omega,qC (τ:=⟨[(0,qb a),(1,qb b),(5,.os 0 0 (jS (a.take (i + 1)) b).length),(6,.os 1 0 (jS (a.take (i + 1)) b).length),(16,qb a),(17,.v (.int .i64 a.length)),(18,.v (.int .i64 ((i + 1:Nat):Int)))],[(0,.own false 5 ((jS (a.take (i + 1)) b).map fun p=>(Q9 p).row)),(1,.own false 1 ((jS (a.take (i + 1)) b).map qN))],2⟩) [(0,0),(1,1)] rfl ?gts ?ghs,i + 1,by omega,rfl,(by rw [hg2];exact hsofar),rfl⟩;(case gts=>(repeat (first|exact qg|refine qn ?_|refine ye ?_|refine vj ?_|refine qS ?_ ?_));all_goals (rw [hg2]));(case ghs=>(repeat (first|exact qj|refine yA ?_|refine q9 ?_ ?_));all_goals (rw [hg2])))
     | (have hg2:jS (a.take (i + 1)) b = G ++ [a[i].path]:=(by rw [hgs];simp_all);refine ⟨a.length - (i + 1),_,by omega,qC (τ:=⟨[(0,qb a),(1,qb b),(5,.os 0 0 (jS (a.take (i + 1)) b).length),(6,.os 1 0 (jS (a.take (i + 1)) b).length),(16,qb a),(17,.v (.int .i64 a.length)),(18,.v (.int .i64 ((i + 1:Nat):Int)))],[(0,.own false 5 ((jS (a.take (i + 1)) b).map fun p=>(Q9 p).row)),(1,.own false 1 ((jS (a.take (i + 1)) b).map qN))],2⟩) [(3,0),(4,1)] rfl ?gts ?ghs,i + 1,by omega,rfl,(by rw [hg2];exact hng),rfl⟩;(case gts=>(repeat (first|exact qg|refine qn ?_|refine ye ?_|refine vj ?_|refine qS ?_ ?_));all_goals (rw [hg2];first|(rw [List.take_of_length_le (by simp),List.map_append];rfl)|(simp;done)));(case ghs=>(repeat (first|exact qj|refine yA ?_|refine q9 ?_ ?_));all_goals (rw [hg2];first|(rw [List.take_of_length_le (by simp),List.map_append];rfl)|(simp;done))))
  | false =>
    rw [hh] at hat
    rw [(xK hh).1] at hdf
    repeat' (first|refine qm ?_|(first|(refine jM ?_)|(refine yg ?_)|refine xsQ Tryz.func63 (hat ..) ?_|(apply qf;apply yu ([1,2]);exact j1 Tryz.func102 rfl rfl;exact hcon;(case hz=>(refine qH (jY rfl (by simp) (qE fun _=>rfl)) (qH (jJ q5 (qH (qat rfl (by simp) (zo (fun row hrow=>by rw [List.mem_singleton.1 hrow];rfl))) q5)) q5)));(case hfl=>rfl);(case hN=>exact nle rfl))|(refine W0 ?_))|((first|refine qd ?_ ?_|refine qc ?_ ?_|refine xsC ?_ ?_);all_goals (intro hc;have hp:=hc;try simp at hp;try (exfalso;omega)))|refine qO ?_ ?_)
    all_goals try (exfalso;omega)
    all_goals first
     | (have hg2:jS (a.take (i + 1)) b = G:=(by rw [hgs];simp_all);refine ⟨a.length - (i + 1),_,by omega,qC (τ:=⟨[(0,qb a),(1,qb b),(5,.os 0 0 (jS (a.take (i + 1)) b).length),(6,.os 1 0 (jS (a.take (i + 1)) b).length),(16,qb a),(17,.v (.int .i64 a.length)),(18,.v (.int .i64 ((i + 1:Nat):Int)))],[(0,.own false 5 ((jS (a.take (i + 1)) b).map fun p=>(Q9 p).row)),(1,.own false 1 ((jS (a.take (i + 1)) b).map qN))],2⟩) [(0,0),(1,1)] rfl ?gts ?ghs,i + 1,by omega,rfl,(by rw [hg2];exact hsofar),rfl⟩;(case gts=>(repeat (first|exact qg|refine qn ?_|refine ye ?_|refine vj ?_|refine qS ?_ ?_));all_goals (rw [hg2]));(case ghs=>(repeat (first|exact qj|refine yA ?_|refine q9 ?_ ?_));all_goals (rw [hg2])))
     | (have hg2:jS (a.take (i + 1)) b = G ++ [a[i].path]:=(by rw [hgs];simp_all);refine ⟨a.length - (i + 1),_,by omega,qC (τ:=⟨[(0,qb a),(1,qb b),(5,.os 0 0 (jS (a.take (i + 1)) b).length),(6,.os 1 0 (jS (a.take (i + 1)) b).length),(16,qb a),(17,.v (.int .i64 a.length)),(18,.v (.int .i64 ((i + 1:Nat):Int)))],[(0,.own false 5 ((jS (a.take (i + 1)) b).map fun p=>(Q9 p).row)),(1,.own false 1 ((jS (a.take (i + 1)) b).map qN))],2⟩) [(3,0),(4,1)] rfl ?gts ?ghs,i + 1,by omega,rfl,(by rw [hg2];exact hng),rfl⟩;(case gts=>(repeat (first|exact qg|refine qn ?_|refine ye ?_|refine vj ?_|refine qS ?_ ?_));all_goals (rw [hg2];first|(rw [List.take_of_length_le (by simp),List.map_append];rfl)|(simp;done)));(case ghs=>(repeat (first|exact qj|refine yA ?_|refine q9 ?_ ?_));all_goals (rw [hg2];first|(rw [List.take_of_length_le (by simp),List.map_append];rfl)|(simp;done))))
 obtain rfl:i = a.length:=by omega
 rw [List.take_length] at *
 repeat' (first|refine qm ?_|fail|((first|refine qd ?_ ?_|refine qc ?_ ?_|refine xsC ?_ ?_);all_goals (intro hc;have hp:=hc;try simp at hp;try (exfalso;omega)))|refine qO ?_ ?_)
 all_goals try (exfalso;omega)
 have hR0:(jS a b).map (fun p=>(Q9 p).row) = (vP a b 0).map Chg.row:=by simp [vP]
 have hL0:(jS a b).length = (vP a b 0).length:=by simp [vP]
 rw [hR0,hL0]
 (refine Awp.red (qC (τ:=⟨[(0,qb a),(5,.os 0 0 (vP a b 0).length),(56,qb b),(57,.v (.int .i64 b.length)),(58,.v (.int .i64 ((0:Nat):Int)))],[(0,.own false 5 ((vP a b 0).map Chg.row))],1⟩) [(0,0)] rfl ?gts2 ?ghs2) ?gmain2;(case gts2=>(repeat (first|exact qg|refine qn ?_|refine ye ?_|refine vj ?_|refine qS ?_ ?_));all_goals (rw [List.length_map]));(case ghs2=>(repeat (first|exact qj|refine yA ?_|refine q9 ?_ ?_))))
 refine qP (fun n σ => ∃ i:Nat,i ≤ b.length ∧ n = b.length - i ∧ (True) ∧ σ = ⟨[(0,qb a),(5,.os 0 0 (vP a b i).length),(56,qb b),(57,.v (.int .i64 b.length)),(58,.v (.int .i64 (i:Int)))],[(0,.own false 5 ((vP a b i).map Chg.row))],1⟩) b.length ⟨0,Nat.zero_le _,rfl,trivial,rfl⟩ ?_
 rintro n σ ⟨i,hi,rfl, -,rfl⟩
 have hgl:(vP a b i).length ≤ 2000000:=by
  have h1:=ZZ a b
  have h2:((b.take i).filter fun x => !XZ a x).length ≤ (b.take i).length:=List.length_filter_le ..
  have h3:(b.take i).length ≤ b.length:=by simp;omega
  simp only [vP,List.length_append,List.length_map];omega
 by_cases hlt:i < b.length
 ·have hr:=js (f:=Ent.row) hlt
  have hgs := @qes a b i hlt
  have hmk1:b[i].fold = true → (Qi b[i]).row = [.v (.int .i64 1),.v (str b[i].path),.v (str []),.v (str b[i].text),.v (.int .i64 (-1))]:=fun h=>by simp [Qi,Chg.row,h]
  have hmk2:b[i].fold = false → (Qi b[i]).row = [.v (.int .i64 2),.v (str b[i].path),.v (str []),.v (str b[i].text),.v (.int .i64 (-1))]:=fun h=>by simp [Qi,Chg.row,h]
  have hat:=We a b[i].path (by omega) hsa
  have hst:XZ a b[i] = match a.find? (atP b[i].path) with|some y=>VZ y b[i]|none=>false:=rfl
  generalize vP a b i = G at *
  cases hh:jW a b[i].path with
  | true =>
    obtain ⟨hk,hpe,hfi, -⟩:=zu hsa hh
    rw [hh] at hat
    rw [hfi] at hst
    have hra:=js (f:=Ent.row) hk
    generalize y0 a b[i].path = k at *
    have hlk:=qgm a[k] b[i]
    have hst2:XZ a b[i] = VZ a[k] b[i]:=hst
    obtain ⟨LK,hLK⟩ : ∃ LK,VZ a[k] b[i] = LK:=⟨_,rfl⟩
    rw [hLK] at hst2 hlk
    rw [hst2] at hgs
    clear hst hfi hh hsofar
    repeat' (first|refine qm ?_|(first|(refine jM ?_)|(refine yg ?_)|refine xsQ Tryz.func63 (hat ..) ?_|refine jc Tryz.func105 (hlk ..) ?_)|((first|refine qd ?_ ?_|refine qc ?_ ?_|refine xsC ?_ ?_);all_goals (intro hc;have hp:=hc;try simp at hp;try (exfalso;omega)))|refine qO ?_ ?_)
    all_goals try (exfalso;omega)
    all_goals first
     | (have hg2:vP a b (i + 1) = G:=(by rw [hgs,if_pos (by assumption)]);refine ⟨b.length - (i + 1),_,by omega,qC (τ:=⟨[(0,qb a),(5,.os 0 0 (vP a b (i + 1)).length),(56,qb b),(57,.v (.int .i64 b.length)),(58,.v (.int .i64 ((i + 1:Nat):Int)))],[(0,.own false 5 ((vP a b (i + 1)).map Chg.row))],1⟩) [(0,0)] rfl ?gts ?ghs,i + 1,by omega,rfl,trivial,rfl⟩;(case gts=>(repeat (first|exact qg|refine qn ?_|refine ye ?_|refine vj ?_|refine qS ?_ ?_));all_goals (rw [hg2]));(case ghs=>(repeat (first|exact qj|refine yA ?_|refine q9 ?_ ?_));all_goals (rw [hg2])))
     | (have hg2:vP a b (i + 1) = G ++ [Qi b[i]]:=(by rw [hgs,if_neg (Bool.eq_false_iff.1 (by assumption))]);refine ⟨b.length - (i + 1),_,by omega,qC (τ:=⟨[(0,qb a),(5,.os 0 0 (vP a b (i + 1)).length),(56,qb b),(57,.v (.int .i64 b.length)),(58,.v (.int .i64 ((i + 1:Nat):Int)))],[(0,.own false 5 ((vP a b (i + 1)).map Chg.row))],1⟩) [(3,0)] rfl ?gts ?ghs,i + 1,by omega,rfl,trivial,rfl⟩;(case gts=>(repeat (first|exact qg|refine qn ?_|refine ye ?_|refine vj ?_|refine qS ?_ ?_));all_goals (rw [hg2];first|(rw [List.take_of_length_le (by simp),List.map_append];show _ = _ ++ [(Qi b[i]).row];first|(rw [hmk1 (by assumption)];rfl)|(rw [hmk2 (by assumption)];rfl))|(simp;done)));(case ghs=>(repeat (first|exact qj|refine yA ?_|refine q9 ?_ ?_));all_goals (rw [hg2];first|(rw [List.take_of_length_le (by simp),List.map_append];show _ = _ ++ [(Qi b[i]).row];first|(rw [hmk1 (by assumption)];rfl)|(rw [hmk2 (by assumption)];rfl))|(simp;done))))
  | false =>
    rw [hh] at hat
    rw [(xK hh).1] at hst
    have hst:XZ a b[i] = false:=hst
    clear hh hsofar
    repeat' (first|refine qm ?_|(first|(refine jM ?_)|(refine yg ?_)|refine xsQ Tryz.func63 (hat ..) ?_)|((first|refine qd ?_ ?_|refine qc ?_ ?_|refine xsC ?_ ?_);all_goals (intro hc;have hp:=hc;try simp at hp;try (exfalso;omega)))|refine qO ?_ ?_)
    all_goals try (exfalso;omega)
    all_goals (have hg2:vP a b (i + 1) = G ++ [Qi b[i]]:=(by rw [hgs,if_neg (Bool.eq_false_iff.1 (by assumption))]);refine ⟨b.length - (i + 1),_,by omega,qC (τ:=⟨[(0,qb a),(5,.os 0 0 (vP a b (i + 1)).length),(56,qb b),(57,.v (.int .i64 b.length)),(58,.v (.int .i64 ((i + 1:Nat):Int)))],[(0,.own false 5 ((vP a b (i + 1)).map Chg.row))],1⟩) [(3,0)] rfl ?gts ?ghs,i + 1,by omega,rfl,trivial,rfl⟩;(case gts=>(repeat (first|exact qg|refine qn ?_|refine ye ?_|refine vj ?_|refine qS ?_ ?_));all_goals (rw [hg2];first|(rw [List.take_of_length_le (by simp),List.map_append];show _ = _ ++ [(Qi b[i]).row];first|(rw [hmk1 (by assumption)];rfl)|(rw [hmk2 (by assumption)];rfl))|(simp;done)));(case ghs=>(repeat (first|exact qj|refine yA ?_|refine q9 ?_ ?_));all_goals (rw [hg2];first|(rw [List.take_of_length_le (by simp),List.map_append];show _ = _ ++ [(Qi b[i]).row];first|(rw [hmk1 (by assumption)];rfl)|(rw [hmk2 (by assumption)];rfl))|(simp;done))))
 obtain rfl:i = b.length:=by omega
 repeat' (first|refine qm ?_|fail|((first|refine qd ?_ ?_|refine qc ?_ ?_|refine xsC ?_ ?_);all_goals (intro hc;have hp:=hc;try simp at hp;try (exfalso;omega)))|refine qO ?_ ?_)
 all_goals try (exfalso;omega)
 have hall:vP a b b.length = KR a b:=by simp [vP,KR]
 rw [hall]
 (refine Wb (rs:=[.tmp 4]) [(0,0)] 1 ?_;(repeat (first|exact qj|refine yA ?_|refine q9 ?_ ?_));all_goals trace_state)
end Go.Proofs.YtnhpclmbhbblbaaGreatDoor
set_option linter.unusedSimpArgs false
set_option linter.unnecessarySimpa false
set_option linter.unusedVariables false
set_option maxHeartbeats 1000000
namespace Go.Proofs.YtnhpclmbhbblbaaGreatDoor
open Go.Ab Go.RowKit
set_option maxRecDepth 10000
attribute [local irreducible] Awp yl jE jl Red qX Go.Ab.Fin qW Rz vl jj ji ResOk jV jz yb jv
end Go.Proofs.YtnhpclmbhbblbaaGreatDoor
set_option linter.unusedSimpArgs false
set_option linter.unnecessarySimpa false
set_option linter.unusedVariables false
namespace Go.Proofs.YtnhpclmbhbblbaaGreatDoor
open Go.Op
end Go.Proofs.YtnhpclmbhbblbaaGreatDoor
set_option linter.unusedSimpArgs false
set_option linter.unnecessarySimpa false
set_option linter.unusedVariables false
set_option maxHeartbeats 1000000
namespace Go.Proofs.YtnhpclmbhbblbaaGreatDoor
open Go.Ab Go.RowKit
set_option maxRecDepth 10000
attribute [local irreducible] Awp yl jE jl Red qX Go.Ab.Fin qW Rz vl jj ji ResOk jV jz yb jv
theorem Jt (l:List Ent) (hl:l.length ≤ 1000000):yO C.P 75 [qb l] (qb l) :=
 Vz (Vt l hl) (jY rfl (by simp) (qE fun _=>rfl))
theorem qdh (l:List Chg) (hl:l.length ≤ 1000000) :
  qW C.P 77 [vM l] [] (.os 0 0 l.length) [.own false 5 (l.map Chg.row)]:=by
 by_cases h0:l = []
 ·subst h0
  refine qa Tryz.func77 rfl _ Tryz.ntmps77 (Nat.le_of_ble_eq_true rfl) _ Tryz.results77 0 rfl rfl ?_
  repeat' (first|refine qm ?_|(first|(refine jM ?_)|(refine Yd ?_)|(refine qbQ ?_))|((first|refine xsC ?_ ?_);all_goals (intro hc;have hp:=hc;try simp at hp;try (exfalso;omega)))|refine qO ?_ ?_)
  · (refine Vf (C:=C) (vX (C:=C) 2 5 rfl (Nat.zero_le _)) ?_)
    (refine Wb (rs:=[.tmp 2]) [(0,0)] 1 ?_;(repeat (first|exact qj|refine yA ?_|refine q9 ?_ ?_));all_goals skip)
  · (refine Wb (rs:=[.tmp 2]) [(0,0)] 1 ?_;(repeat (first|exact qj|refine yA ?_|refine q9 ?_ ?_));all_goals skip)
 ·refine qa Tryz.func77 rfl _ Tryz.ntmps77 (Nat.le_of_ble_eq_true rfl) _ Tryz.results77 0 rfl rfl ?_
  repeat' (first|refine qm ?_|(first|(refine jM ?_)|(refine Yd ?_)|(apply qf;apply ZR;rfl;exact (fun h=>h0 (List.map_eq_nil_iff.1 h));rfl;rfl;(first|exact .inl rfl|exact .inr rfl);exact nle rfl))|((first|refine xsC ?_ ?_);all_goals (intro hc;have hp:=hc;try simp at hp;try (exfalso;omega)))|refine qO ?_ ?_)
  (refine Wb (rs:=[.tmp 2]) [(0,0)] 1 ?_;(repeat (first|exact qj|refine yA ?_|refine q9 ?_ ?_));all_goals skip)
theorem Xc (l:List Chg) (hl:l.length ≤ 1000000):yO C.P 77 [vM l] (vM l) :=
 Vz (qdh l hl) (jY rfl (by simp) (qE fun _=>rfl))
end Go.Proofs.YtnhpclmbhbblbaaGreatDoor
set_option linter.unusedSimpArgs false
set_option linter.unnecessarySimpa false
set_option linter.unusedVariables false
set_option maxHeartbeats 1000000
namespace Go.Proofs.YtnhpclmbhbblbaaGreatDoor
open Go.Ab Go.RowKit
set_option maxRecDepth 10000
attribute [local irreducible] Awp yl jE jl Red qX Go.Ab.Fin qW Rz vl jj ji ResOk jV jz yb jv
theorem yB (o:List Ent) (r s:List AV) {y z:Ent} (hr:r = y.row:=by rfl) (hs:s = z.row:=by rfl):(((o.map Ent.row).take o.length ++ [r]).take (o.length + 1)) ++ [s] = (o ++ ([y] ++ [z])).map Ent.row:=by
 subst hr;subst hs
 have e1:(o.map Ent.row).take o.length = o.map Ent.row:=List.take_of_length_le (by simp)
 rw [e1,List.take_of_length_le (by simp)]
 simp
theorem wM (t:List Ent) (x:Ent) (hl:t.length ≤ 400000):yO C.P 31 [qb t,.agg x.row] (qb (XA t x)):=by
 refine qa Tryz.func31 rfl _ Tryz.ntmps31 (Nat.le_of_ble_eq_true rfl) _ Tryz.results31 0 rfl rfl ?_
 repeat' (first|refine qm ?_|fail|((first|refine qd ?_ ?_|refine qc ?_ ?_|refine xsC ?_ ?_);all_goals (intro hc;have hp:=hc;try simp at hp;try (exfalso;omega)))|refine qO ?_ ?_)
 refine Awp.red (vX 5 4 rfl (Nat.zero_le _)) ?_
 (refine Awp.red (qC (τ:=⟨[(0,qb t),(3,.op 0 0 0),(5,.os 1 0 0),(6,.v (.bool false)),(7,.v (.int .i64 ((0:Nat):Int)))],[(0,.own false 4 [x.row]),(1,.own false 4 [])],2⟩) [(0,0),(1,1)] rfl ?gts ?ghs) ?gmain;(case gts=>(repeat (first|exact qg|refine qn ?_|refine ye ?_|refine vj ?_|refine qS ?_ ?_));all_goals skip);(case ghs=>(repeat (first|exact qj|refine yA ?_|refine q9 ?_ ?_))))
 refine qP (fun n σ => ∃ i:Nat,i ≤ t.length ∧ n = t.length - i ∧ (True) ∧ σ = ⟨[(0,qb t),(3,.op 0 0 0),(5,.os 1 0 (xd (t.take i) x).1.length),(6,.v (.bool (xd (t.take i) x).2)),(7,.v (.int .i64 (i:Int)))],[(0,.own false 4 [x.row]),(1,.own false 4 ((xd (t.take i) x).1.map Ent.row))],2⟩) t.length ⟨0,Nat.zero_le _,rfl,trivial,rfl⟩ ?_
 rintro n σ ⟨i,hi,rfl, -,rfl⟩
 have hgl:=qaj (t.take i) x
 have htl:(t.take i).length ≤ t.length:=by simp;omega
 by_cases hlt:i < t.length
 ·have hr:=js (f:=Ent.row) hlt
  have hgs := @Kc t x i hlt
  generalize xd (t.take i) x = G at *
  obtain ⟨o,b⟩:=G
  simp only [x9] at hgs
  have hgl:o.length ≤ 2 * (t.take i).length:=hgl
  cases b<;>cases hless:Op.bytesLess t[i].path x.path<;>by_cases hpe:t[i].path = x.path
  all_goals try (exfalso;rw [hpe,zj] at hless;exact absurd hless (by decide))
  all_goals simp only [hless,hpe,zj,if_true,if_false,and_true,and_false,and_self,Bool.false_or,Bool.true_or,Bool.not_true,Bool.not_false,List.append_nil,Bool.true_eq_false,Bool.false_eq_true,List.append_assoc] at hgs
  all_goals (
   repeat' (first|refine qm ?_|(first|(refine jM ?_)|(refine yg ?_))|((first|refine qd ?_ ?_|refine qc ?_ ?_|refine xsC ?_ ?_);all_goals (intro hc;have hp:=hc;try simp at hp;try (exfalso;omega)))|refine qO ?_ ?_))
  all_goals try (exfalso;first|omega|contradiction|(simp_all;done))
  ·refine ⟨t.length - (i + 1),_,by omega,qC (τ:=⟨[(0,qb t),(3,.op 0 0 0),(5,.os 1 0 (xd (t.take (i + 1)) x).1.length),(6,.v (.bool (xd (t.take (i + 1)) x).2)),(7,.v (.int .i64 ((i + 1:Nat):Int)))],[(0,.own false 4 [x.row]),(1,.own false 4 ((xd (t.take (i + 1)) x).1.map Ent.row))],2⟩) [(0,0),(2,1)] rfl ?gts ?ghs,i + 1,by omega,rfl,trivial,rfl⟩;(case gts=>(repeat (first|exact qg|refine qn ?_|refine ye ?_|refine vj ?_|refine qS ?_ ?_));all_goals (rw [hgs];try first|(simp only [List.length_append,List.length_cons,List.length_nil,List.map_append,List.map_cons,List.map_nil,List.append_assoc,List.cons_append,List.nil_append];done)|(rw [List.take_of_length_le (by simp)];simp;done)|(simp;done)|exact yB o x.row _));(case ghs=>(repeat (first|exact qj|refine yA ?_|refine q9 ?_ ?_));all_goals (rw [hgs];try first|(simp only [List.length_append,List.length_cons,List.length_nil,List.map_append,List.map_cons,List.map_nil,List.append_assoc,List.cons_append,List.nil_append];done)|(rw [List.take_of_length_le (by simp)];simp;done)|(simp;done)|exact yB o x.row _))
  ·refine ⟨t.length - (i + 1),_,by omega,qC (τ:=⟨[(0,qb t),(3,.op 0 0 0),(5,.os 1 0 (xd (t.take (i + 1)) x).1.length),(6,.v (.bool (xd (t.take (i + 1)) x).2)),(7,.v (.int .i64 ((i + 1:Nat):Int)))],[(0,.own false 4 [x.row]),(1,.own false 4 ((xd (t.take (i + 1)) x).1.map Ent.row))],2⟩) [(0,0),(3,1)] rfl ?gts ?ghs,i + 1,by omega,rfl,trivial,rfl⟩;(case gts=>(repeat (first|exact qg|refine qn ?_|refine ye ?_|refine vj ?_|refine qS ?_ ?_));all_goals (rw [hgs];try first|(simp only [List.length_append,List.length_cons,List.length_nil,List.map_append,List.map_cons,List.map_nil,List.append_assoc,List.cons_append,List.nil_append];done)|(rw [List.take_of_length_le (by simp)];simp;done)|(simp;done)|exact yB o x.row _));(case ghs=>(repeat (first|exact qj|refine yA ?_|refine q9 ?_ ?_));all_goals (rw [hgs];try first|(simp only [List.length_append,List.length_cons,List.length_nil,List.map_append,List.map_cons,List.map_nil,List.append_assoc,List.cons_append,List.nil_append];done)|(rw [List.take_of_length_le (by simp)];simp;done)|(simp;done)|exact yB o x.row _))
  ·refine ⟨t.length - (i + 1),_,by omega,qC (τ:=⟨[(0,qb t),(3,.op 0 0 0),(5,.os 1 0 (xd (t.take (i + 1)) x).1.length),(6,.v (.bool (xd (t.take (i + 1)) x).2)),(7,.v (.int .i64 ((i + 1:Nat):Int)))],[(0,.own false 4 [x.row]),(1,.own false 4 ((xd (t.take (i + 1)) x).1.map Ent.row))],2⟩) [(0,0),(2,1)] rfl ?gts ?ghs,i + 1,by omega,rfl,trivial,rfl⟩;(case gts=>(repeat (first|exact qg|refine qn ?_|refine ye ?_|refine vj ?_|refine qS ?_ ?_));all_goals (rw [hgs];try first|(simp only [List.length_append,List.length_cons,List.length_nil,List.map_append,List.map_cons,List.map_nil,List.append_assoc,List.cons_append,List.nil_append];done)|(rw [List.take_of_length_le (by simp)];simp;done)|(simp;done)|exact yB o x.row _));(case ghs=>(repeat (first|exact qj|refine yA ?_|refine q9 ?_ ?_));all_goals (rw [hgs];try first|(simp only [List.length_append,List.length_cons,List.length_nil,List.map_append,List.map_cons,List.map_nil,List.append_assoc,List.cons_append,List.nil_append];done)|(rw [List.take_of_length_le (by simp)];simp;done)|(simp;done)|exact yB o x.row _))
  ·refine ⟨t.length - (i + 1),_,by omega,qC (τ:=⟨[(0,qb t),(3,.op 0 0 0),(5,.os 1 0 (xd (t.take (i + 1)) x).1.length),(6,.v (.bool (xd (t.take (i + 1)) x).2)),(7,.v (.int .i64 ((i + 1:Nat):Int)))],[(0,.own false 4 [x.row]),(1,.own false 4 ((xd (t.take (i + 1)) x).1.map Ent.row))],2⟩) [(0,0),(1,1)] rfl ?gts ?ghs,i + 1,by omega,rfl,trivial,rfl⟩;(case gts=>(repeat (first|exact qg|refine qn ?_|refine ye ?_|refine vj ?_|refine qS ?_ ?_));all_goals (rw [hgs];try first|(simp only [List.length_append,List.length_cons,List.length_nil,List.map_append,List.map_cons,List.map_nil,List.append_assoc,List.cons_append,List.nil_append];done)|(rw [List.take_of_length_le (by simp)];simp;done)|(simp;done)|exact yB o x.row _));(case ghs=>(repeat (first|exact qj|refine yA ?_|refine q9 ?_ ?_));all_goals (rw [hgs];try first|(simp only [List.length_append,List.length_cons,List.length_nil,List.map_append,List.map_cons,List.map_nil,List.append_assoc,List.cons_append,List.nil_append];done)|(rw [List.take_of_length_le (by simp)];simp;done)|(simp;done)|exact yB o x.row _))
  ·refine ⟨t.length - (i + 1),_,by omega,qC (τ:=⟨[(0,qb t),(3,.op 0 0 0),(5,.os 1 0 (xd (t.take (i + 1)) x).1.length),(6,.v (.bool (xd (t.take (i + 1)) x).2)),(7,.v (.int .i64 ((i + 1:Nat):Int)))],[(0,.own false 4 [x.row]),(1,.own false 4 ((xd (t.take (i + 1)) x).1.map Ent.row))],2⟩) [(0,0),(2,1)] rfl ?gts ?ghs,i + 1,by omega,rfl,trivial,rfl⟩;(case gts=>(repeat (first|exact qg|refine qn ?_|refine ye ?_|refine vj ?_|refine qS ?_ ?_));all_goals (rw [hgs];try first|(simp only [List.length_append,List.length_cons,List.length_nil,List.map_append,List.map_cons,List.map_nil,List.append_assoc,List.cons_append,List.nil_append];done)|(rw [List.take_of_length_le (by simp)];simp;done)|(simp;done)|exact yB o x.row _));(case ghs=>(repeat (first|exact qj|refine yA ?_|refine q9 ?_ ?_));all_goals (rw [hgs];try first|(simp only [List.length_append,List.length_cons,List.length_nil,List.map_append,List.map_cons,List.map_nil,List.append_assoc,List.cons_append,List.nil_append];done)|(rw [List.take_of_length_le (by simp)];simp;done)|(simp;done)|exact yB o x.row _))
  ·refine ⟨t.length - (i + 1),_,by omega,qC (τ:=⟨[(0,qb t),(3,.op 0 0 0),(5,.os 1 0 (xd (t.take (i + 1)) x).1.length),(6,.v (.bool (xd (t.take (i + 1)) x).2)),(7,.v (.int .i64 ((i + 1:Nat):Int)))],[(0,.own false 4 [x.row]),(1,.own false 4 ((xd (t.take (i + 1)) x).1.map Ent.row))],2⟩) [(0,0),(2,1)] rfl ?gts ?ghs,i + 1,by omega,rfl,trivial,rfl⟩;(case gts=>(repeat (first|exact qg|refine qn ?_|refine ye ?_|refine vj ?_|refine qS ?_ ?_));all_goals (rw [hgs];try first|(simp only [List.length_append,List.length_cons,List.length_nil,List.map_append,List.map_cons,List.map_nil,List.append_assoc,List.cons_append,List.nil_append];done)|(rw [List.take_of_length_le (by simp)];simp;done)|(simp;done)|exact yB o x.row _));(case ghs=>(repeat (first|exact qj|refine yA ?_|refine q9 ?_ ?_));all_goals (rw [hgs];try first|(simp only [List.length_append,List.length_cons,List.length_nil,List.map_append,List.map_cons,List.map_nil,List.append_assoc,List.cons_append,List.nil_append];done)|(rw [List.take_of_length_le (by simp)];simp;done)|(simp;done)|exact yB o x.row _))
 obtain rfl:i = t.length:=by omega
 rw [List.take_length] at *
 have hR:XA t x = if (xd t x).2 = true then (xd t x).1 else (xd t x).1 ++ [x]:=rfl
 generalize xd t x = G at *
 obtain ⟨o,b⟩:=G
 have hgl:o.length ≤ 2 * t.length:=hgl
 cases b
 ·have hR:XA t x = o ++ [x]:=hR
  rw [hR]
  repeat' (first|refine qm ?_|(first|(refine jM ?_)|(refine yg ?_))|((first|refine qd ?_ ?_|refine qc ?_ ?_|refine xsC ?_ ?_);all_goals (intro hc;have hp:=hc;try simp at hp;try (exfalso;omega)))|refine qO ?_ ?_)
  all_goals try (exfalso;omega)
  (refine yP (rs:=[.tmp 4]) ?_;(repeat' (first|exact q5|apply qH|exact q8 rfl|exact yn|exact zA|apply jR|apply yL|apply jJ|apply yJ|apply ya|apply yK|refine zi ?_|apply va));all_goals (show (o.map Ent.row).take o.length ++ [x.row] = _;rw [List.take_of_length_le (by simp)];simp))
 ·have hR:XA t x = o:=hR
  rw [hR]
  repeat' (first|refine qm ?_|(first|(refine jM ?_)|(refine yg ?_))|((first|refine qd ?_ ?_|refine qc ?_ ?_|refine xsC ?_ ?_);all_goals (intro hc;have hp:=hc;try simp at hp;try (exfalso;omega)))|refine qO ?_ ?_)
  all_goals try (exfalso;omega)
  (exact xE (rs:=[.tmp 4]))
theorem qfd:qcm C.P 59 = some [1,2,1,0]:=by kernel_rfl
theorem qcZ (a b:Ent):Qm [1,2,1,0] a.row b.row = some (decide (a = b)):=by
 obtain ⟨a1,a2,a3,a4⟩:=a
 obtain ⟨b1,b2,b3,b4⟩:=b
 simp only [Ent.row,Qm,Qw,str,Ent.mk.injEq,if_true,Option.some.injEq]
 by_cases h1:a1 = b1<;>by_cases h2:a2 = b2<;>by_cases h3:a3 = b3<;>by_cases h4:a4 = b4<;>simp [h1,h2,h3,h4]
theorem Kl {α:Type} {a b:List α} {i:Nat} (h1:i < a.length) (h2:i < b.length) (h:a.take i = b.take i) (h3:a[i] = b[i]):a.take (i + 1) = b.take (i + 1):=by
 rw [List.take_succ_eq_append_getElem h1,List.take_succ_eq_append_getElem h2,h,h3]
theorem JU (a b:List Ent) (ha:a.length ≤ 1000000000) (hb:b.length ≤ 1000000000):yO C.P 39 [qb a,qb b] (.v (.bool (decide (a = b)))):=by
 have hma:(a.map Ent.row).length = a.length:=List.length_map ..
 have hmb:(b.map Ent.row).length = b.length:=List.length_map ..
 refine qa Tryz.func39 rfl _ Tryz.ntmps39 (Nat.le_of_ble_eq_true rfl) _ Tryz.results39 0 rfl rfl ?_
 repeat' (first|refine qm ?_|fail|((first|refine xsC ?_ ?_);all_goals (intro hc;have hp:=hc;try simp at hp;try (exfalso;omega)))|refine qO ?_ ?_)
 ·apply jB
  rfl
  have hne:¬ a = b:=fun e=>by subst e;simp at *
  simp [hne]
 have hab:a.length = b.length:=by simp at *;omega
 (refine Awp.red (qv (ts:=[(0,qb a),(1,qb b),(5,.v (.int .i64 ((0:Nat):Int)))]) ?_) ?_;((repeat (first|exact qg|refine qn ?_|refine qS ?_ ?_))))
 refine qP (fun n σ => ∃ i:Nat,i ≤ a.length ∧ n = a.length - i ∧ (a.take i = b.take i) ∧ σ = ⟨[(0,qb a),(1,qb b),(5,.v (.int .i64 (i:Int)))],[],C.nh⟩) a.length ⟨0,Nat.zero_le _,rfl,rfl,rfl⟩ ?_
 rintro n σ ⟨i,hi,rfl,hsofar,rfl⟩
 by_cases hlt:i < a.length
 ·have hlt2:i < b.length:=by omega
  have hr:=js (f:=Ent.row) hlt
  have hr':=js (f:=Ent.row) hlt2
  have hnx:=Kl hlt hlt2 hsofar
  repeat' (first|refine qm ?_|(first|(apply qf;apply xJ;rfl;rfl;exact qfd;exact qcZ _ _;(first|exact .inl ⟨rfl,rfl⟩|exact .inr ⟨rfl,rfl⟩);exact nle rfl))|((first|refine xsC ?_ ?_);all_goals (intro hc;have hp:=hc;try simp at hp;try (exfalso;omega)))|refine qO ?_ ?_)
  all_goals try (exfalso;omega)
  ·apply jB
   rfl
   have hne:¬ a = b:=fun e=>by subst e;simp at *
   simp [hne]
  ·refine ⟨a.length - (i + 1),_,by omega,qv (ts:=[(0,qb a),(1,qb b),(5,.v (.int .i64 ((i + 1:Nat):Int)))]) ?_,i + 1,by omega,rfl,(hnx (by simp_all)),rfl⟩;((repeat (first|exact qg|refine qn ?_|refine qS ?_ ?_)))
 obtain rfl:i = a.length:=by omega
 have he:a = b:=by rw [List.take_length] at hsofar;rw [hsofar,hab,List.take_length]
 repeat' (first|refine qm ?_|fail|((first|refine xsC ?_ ?_);all_goals (intro hc;have hp:=hc;try simp at hp;try (exfalso;omega)))|refine qO ?_ ?_)
 all_goals try (exfalso;omega)
 apply jB
 rfl
 simp [he]
end Go.Proofs.YtnhpclmbhbblbaaGreatDoor
