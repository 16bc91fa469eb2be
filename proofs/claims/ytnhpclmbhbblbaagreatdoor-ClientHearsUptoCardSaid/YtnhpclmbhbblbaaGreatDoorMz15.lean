import Derived.Test.YtnhpclmbhbblbaaGreatDoorMz12
import Derived.Test.YtnhpclmbhbblbaaGreatDoorMz11
import Derived.Test.YtnhpclmbhbblbaaGreatDoorMz9
set_option linter.unusedSimpArgs false
set_option linter.unnecessarySimpa false
set_option linter.unusedVariables false
namespace Go.Proofs.YtnhpclmbhbblbaaGreatDoor
open Go.Op
structure Thg where
 kind:Int
 text:qQ
 deriving DecidableEq
def noT:Thg:=⟨0,[]⟩
def xO (x:Ent):Thg:=if x.fold = true then ⟨1,[]⟩ else ⟨2,x.text⟩
def stT (t:List Ent) (p:qQ):Thg:=match q7 t p with|none=>noT|some x=>xO x
structure Cpy where
 path:qQ
 at_:qQ
 deriving DecidableEq
def Q4 (p:qQ) (x:Thg):Ent:=⟨p,decide (x.kind = 1),x.text,1⟩
def JQ (b x y:Thg):Thg × Thg :=
 if x = y then (x,noT) else if x = b then (y,noT) else if y = b then (x,noT)
 else if x.kind = 1 then (x,y) else if y.kind = 1 then (y,x)
 else if x.kind = 2 ∧ y.kind = 2 then (y,x) else if x.kind = 2 then (x,noT) else (y,noT)
def wJ (o:List Ent) (p:qQ) (x:Thg):List Ent:=if x.kind = 0 then o else jN o (Q4 p x)
def zE (l:List qQ) (s:qQ):List qQ:=if s ∈ l then l else l.takeWhile (fun x=>bytesLess x s) ++ s :: l.dropWhile (fun x=>bytesLess x s)
def zb (b m t:List Ent):List qQ:=((b ++ (m ++ t)).map Ent.path).foldl zE []
def xZ (b m t:List Ent) (p:qQ):Thg × Thg:=JQ (stT b p) (stT m p) (stT t p)
def xH (b m t:List Ent) (P:List qQ):List Ent:=P.foldl (fun o p=>wJ o p (xZ b m t p).1) []
def yx (b m t:List Ent) (P:List qQ):List (qQ × qQ):=P.filterMap fun p=>if (xZ b m t p).2.kind = 2 then some (p,(xZ b m t p).2.text) else none
def JW (m t o:List Ent) (q:qQ):Bool := !jW m q && !jW t q && !jW o q
def xS (m t o:List Ent) (p:qQ):Nat → Nat → Option qQ
 | 0,_=>none
 | k + 1,n=>if vz p (n:Int) = 0 then (if JW m t o (yr p (n:Int)) = true then some (yr p (n:Int)) else xS m t o p k (n + 1)) else none
structure MS where
 out:List Ent
 cps:List Cpy
def zc (m t:List Ent) (s:MS) (p x:qQ):Option MS :=
 match xS m t s.out p 99 1 with
 | none=>none
 | some q=>some ⟨jN s.out ⟨q,false,x,1⟩,s.cps ++ [⟨p,q⟩]⟩
def Vg (m t:List Ent):List (qQ × qQ) → MS → Option MS
 | [],s=>some s
 | g :: l,s=>match zc m t s g.1 g.2 with|none=>none|some s'=>Vg m t l s'
def YY (m t:List Ent) (s:MS) (q:qQ):Option MS :=
 if (stT s.out q).kind = 1 then some s
 else if (stT s.out q).kind = 2 then zc m t ⟨jN s.out ⟨q,true,[],1⟩,s.cps⟩ q (stT s.out q).text
 else some ⟨jN s.out ⟨q,true,[],1⟩,s.cps⟩
def kn (m t:List Ent):List qQ → MS → Option MS
 | [],s=>some s
 | q :: l,s=>match YY m t s q with|none=>none|some s'=>kn m t l s'
def jC (p:qQ):List qQ:=(List.range ((qo p).length - 1)).map fun k=>yF ((qo p).take (k + 1))
def vI (b m t:List Ent):Option MS :=
 match Vg m t (yx b m t (zb b m t)) ⟨xH b m t (zb b m t),[]⟩ with
 | none=>none
 | some s=>kn m t ((s.out.map Ent.path).flatMap jC) s
def zU (t:List Ent) (e:Ent):Option Int:=match q7 t e.path with|none=>none|some x=>if xO x = xO e then some x.ver else none
def kK (m t:List Ent) (e:Ent):Int:=match zU t e with|some v=>v|none=>match zU m e with|some v=>v|none=>1
def zH (m t:List Ent) (e:Ent):Ent := { e with ver:=kK m t e }
def vW (b m t:List Ent):List Ent × List Cpy × Int :=
 match vI b m t with
 | none=>([],[],2)
 | some s=>if 60 < s.out.length then ([],[],2) else (s.out.map (zH m t),s.cps,0)
def zd (b m t:List Ent):List Ent × List Cpy × Int:=if j3 qD [b,m,t] = 0 then vW b m t else ([],[],j3 qD [b,m,t])
def kP (x:Thg):Prop:=(x.kind = 0 ∧ x.text = []) ∨ (x.kind = 1 ∧ x.text = []) ∨ x.kind = 2
theorem qfS {x y:Thg} (h1:x.kind = y.kind) (h2:x.text = y.text):x = y:=by
 obtain ⟨a,b⟩:=x
 obtain ⟨c,d⟩:=y
 simp at h1 h2
 rw [h1,h2]
theorem qfj (x:Ent):kP (xO x):=by
 unfold xO
 split
 ·exact .inr (.inl ⟨rfl,rfl⟩)
 ·exact .inr (.inr rfl)
theorem kv (t:List Ent) (p:qQ):kP (stT t p):=by
 unfold stT
 split
 ·exact .inl ⟨rfl,rfl⟩
 ·exact qfj _
theorem qeB (x:Ent):(xO x).kind = 1 ∨ (xO x).kind = 2:=by
 unfold xO
 split
 ·exact .inl rfl
 ·exact .inr rfl
theorem KZ {t:List Ent} {p:qQ}:(stT t p).kind = 0 ↔ q7 t p = none:=by
 unfold stT
 cases h:q7 t p with
 | none=>simp [noT]
 | some x=>rcases qeB x with h1|h1<;>simp [h1]
theorem qeA {t:List Ent} {p:qQ}:(stT t p).kind = 1 ↔ ∃ x,q7 t p = some x ∧ x.fold = true:=by
 unfold stT
 cases h:q7 t p with
 | none=>simp [noT]
 | some x =>
   unfold xO
   cases hf:x.fold<;>simp [hf]
theorem qgM {t:List Ent} {p s:qQ}:stT t p = ⟨2,s⟩ ↔ ∃ x,q7 t p = some x ∧ x.fold = false ∧ x.text = s:=by
 unfold stT
 cases h:q7 t p with
 | none=>simp [noT]
 | some x =>
   unfold xO
   cases hf:x.fold<;>simp [hf]
theorem K4 {p:qQ} {x:Thg} (h:kP x) (h0:¬ x.kind = 0):xO (Q4 p x) = x:=by
 obtain ⟨k,s⟩:=x
 unfold xO Q4
 rcases h with ⟨h,_⟩|⟨h,h2⟩|h
 ·exact absurd h h0
 ·simp at h h2;subst h;subst h2;rfl
 ·simp at h;subst h;rfl
theorem W5 {b x y:Thg} (hx:kP x) (hy:kP y):kP (JQ b x y).1 ∧ kP (JQ b x y).2:=by
 have hn:kP noT := .inl ⟨rfl,rfl⟩
 unfold JQ
 (repeat' split)<;>exact ⟨by assumption,by assumption⟩
def Ql (l:List qQ):Prop:=l.Pairwise fun a b=>bytesLess a b = true
theorem qap : ∀ {t u:List qQ},Ql t → Ql u → (∀ x,x ∈ t ↔ x ∈ u) → t = u
 | [],[],_,_,_=>rfl
 | [],y :: u,_,_,h=>absurd ((h y).2 (by simp)) (by simp)
 | x :: t,[],_,_,h=>absurd ((h x).1 (by simp)) (by simp)
 | x :: t,y :: u,ht,hu,h=>by
   have ht1:=List.pairwise_cons.1 ht
   have hu1:=List.pairwise_cons.1 hu
   have hxy:x = y:=by
    rcases List.mem_cons.1 ((h x).1 (by simp)) with h1|h1
    ·exact h1
    ·rcases List.mem_cons.1 ((h y).2 (by simp)) with h2|h2
     ·exact h2.symm
     ·have h3:=ht1.1 y h2
      have h4:=hu1.1 x h1
      rw [qbF h3] at h4;cases h4
   subst hxy
   refine congrArg _ (qap ht1.2 hu1.2 fun z=>⟨fun hz=>?_,fun hz=>?_⟩)
   ·rcases List.mem_cons.1 ((h z).1 (by simp [hz])) with h1|h1
    ·subst h1
     have:=ht1.1 z hz
     rw [zj] at this;cases this
    ·exact h1
   ·rcases List.mem_cons.1 ((h z).2 (by simp [hz])) with h1|h1
    ·subst h1
     have:=hu1.1 z hz
     rw [zj] at this;cases this
    ·exact h1
theorem qeg {l:List qQ} {s x:qQ}:x ∈ zE l s ↔ x = s ∨ x ∈ l:=by
 unfold zE
 split
 ·rename_i h
  constructor
  ·exact .inr
  ·rintro (rfl|h1)
   ·exact h
   ·exact h1
 ·have:l = l.takeWhile (fun x=>bytesLess x s) ++ l.dropWhile (fun x=>bytesLess x s):=List.takeWhile_append_dropWhile.symm
  constructor
  ·intro h
   rcases List.mem_append.1 h with h1|h1
   ·right;rw [this];exact List.mem_append_left _ h1
   ·rcases List.mem_cons.1 h1 with h2|h2
    ·exact .inl h2
    ·right;rw [this];exact List.mem_append_right _ h2
  ·rintro (rfl|h)
   ·exact List.mem_append_right _ (List.mem_cons_self ..)
   ·rw [this] at h
    rcases List.mem_append.1 h with h1|h1
    ·exact List.mem_append_left _ h1
    ·exact List.mem_append_right _ (List.mem_cons_of_mem _ h1)
theorem qeq : ∀ {l:List qQ} {s:qQ},Ql l → Ql (zE l s):=by
 intro l s h
 unfold zE
 split
 ·exact h
 ·rename_i hs
  have key : ∀ {l:List qQ},Ql l → s ∉ l → Ql (l.takeWhile (fun x=>bytesLess x s) ++ s :: l.dropWhile (fun x=>bytesLess x s)):=by
   intro l
   induction l with
   | nil=>intro _ _;exact List.pairwise_singleton _ _
   | cons a l ih =>
     intro h hs
     have h1:=List.pairwise_cons.1 h
     simp only [List.mem_cons,not_or] at hs
     by_cases ha:bytesLess a s = true
     ·simp only [List.takeWhile_cons,List.dropWhile_cons,ha,if_true,List.cons_append]
      refine List.pairwise_cons.2 ⟨fun y hy=>?_,ih h1.2 hs.2⟩
      rcases List.mem_append.1 hy with h2|h2
      ·exact h1.1 y ((List.takeWhile_sublist _).subset h2)
      ·rcases List.mem_cons.1 h2 with rfl|h2
       ·exact ha
       ·exact h1.1 y ((List.dropWhile_sublist _).subset h2)
     ·have ha' : bytesLess a s = false:=by simpa using ha
      simp only [List.takeWhile_cons,List.dropWhile_cons,ha',Bool.false_eq_true,if_false,List.nil_append]
      have hsa:bytesLess s a = true:=by
       rcases w4 s a with h2|h2|h2
       ·exact h2.1
       ·exact absurd h2.1 hs.1
       ·exact absurd h2.1 ha
      refine List.pairwise_cons.2 ⟨fun y hy=>?_,h⟩
      rcases List.mem_cons.1 hy with rfl|h2
      ·exact hsa
      ·exact ky hsa (h1.1 y h2)
  exact key h hs
theorem Jl {L:List qQ} : ∀ {l:List qQ},Ql l → Ql (L.foldl zE l) ∧ ∀ x,x ∈ L.foldl zE l ↔ x ∈ L ∨ x ∈ l:=by
 induction L with
 | nil=>intro l h;exact ⟨h,fun x=>by simp⟩
 | cons a L ih =>
   intro l h
   obtain ⟨h1,h2⟩:=ih (qeq (s:=a) h)
   refine ⟨h1,fun x=>?_⟩
   rw [List.foldl_cons,h2,qeg,List.mem_cons]
   constructor
   ·rintro (h|h|h)
    ·exact .inl (.inr h)
    ·exact .inl (.inl h)
    ·exact .inr h
   ·rintro ((h|h)|h)
    ·exact .inr (.inl h)
    ·exact .inl h
    ·exact .inr (.inr h)
theorem qdu (b m t:List Ent):Ql (zb b m t):=(Jl List.Pairwise.nil).1
theorem qef {b m t:List Ent} {p:qQ}:p ∈ zb b m t ↔ ¬ q7 b p = none ∨ ¬ q7 m p = none ∨ ¬ q7 t p = none:=by
 have h1 : ∀ u:List Ent,p ∈ u.map Ent.path ↔ ¬ q7 u p = none:=fun u=>by
  rw [za,List.mem_map]
  constructor
  ·rintro ⟨x,h1,h2⟩ h3;exact h3 x h1 h2
  ·intro h
   exact Classical.byContradiction fun h2=>h fun x hx e=>h2 ⟨x,hx,e⟩
 unfold zb
 rw [(Jl List.Pairwise.nil).2,List.map_append,List.map_append,List.mem_append,List.mem_append,h1,h1,h1]
 simp
end Go.Proofs.YtnhpclmbhbblbaaGreatDoor
set_option linter.unusedSimpArgs false
set_option linter.unnecessarySimpa false
set_option linter.unusedVariables false
namespace Go.Proofs.YtnhpclmbhbblbaaGreatDoor
open Go.Op
theorem YZ {p:qQ} {k:Nat} (hk:k + 1 < (qo p).length):qo (yF ((qo p).take (k + 1))) = (qo p).take (k + 1) :=
 QM (fun e=>by have h2:=congrArg List.length e;rw [List.length_take,List.length_nil] at h2;omega) fun n hn=>QL p n (List.mem_of_mem_take hn)
theorem V5 {p a:qQ}:a ∈ jC p ↔ inB p a = true ∧ ¬ a = p:=by
 unfold jC
 rw [List.mem_map]
 constructor
 ·rintro ⟨k,hk,rfl⟩
  have hk:=List.mem_range.1 hk
  have hn:=YZ (p:=p) (k:=k) (by omega)
  refine ⟨by rw [we,hn];exact List.take_prefix _ _,fun e=>?_⟩
  rw [e] at hn
  have:=congrArg List.length hn
  rw [List.length_take] at this
  omega
 ·rintro ⟨h1,h2⟩
  have h3:=we.1 h1
  obtain ⟨s,hs⟩:=h3
  have hsn:s ≠ []:=fun e=>h2 (by rw [e,List.append_nil] at hs;rw [← yQ a,hs,yQ])
  have hl:=congrArg List.length hs
  rw [List.length_append] at hl
  have hp:=List.length_pos_iff.2 hsn
  have ha:=List.length_pos_iff.2 (xo a)
  refine ⟨(qo a).length - 1,List.mem_range.2 (by omega),?_⟩
  rw [show (qo a).length - 1 + 1 = (qo a).length from by omega, ← hs,List.take_left,yQ]
theorem yz (p:qQ):(jC p).length = (qo p).length - 1:=by simp [jC]
theorem vD {p:qQ} {k:Nat} (hk:k < (jC p).length):(jC p)[k] = yF ((qo p).take (k + 1)):=by simp [jC]
theorem qad {p:qQ} {k:Nat} (hk:k < (jC p).length):jC (jC p)[k] = (jC p).take k:=by
 rw [yz] at hk
 rw [vD (by rw [yz];exact hk)]
 have hn:=YZ (p:=p) (k:=k) (by omega)
 apply List.ext_getElem
 ·rw [yz,hn,List.length_take,List.length_take,yz];omega
 ·intro i h1 h2
  rw [vD h1,List.getElem_take,vD,hn,List.take_take]
  congr 2
  rw [yz,hn,List.length_take] at h1
  omega
theorem qcR {p q:qQ} (hp:qy p = 0) (hq:qy q = 0) (h:qG p = qG q):jC p = jC q:=by
 have hd:(qo p).dropLast = (qo q).dropLast:=by
  have a1:=(vL p).2
  have a2:=(vL q).2
  by_cases e1:(qo p).dropLast = []
  ·by_cases e2:(qo q).dropLast = []
   ·rw [e1,e2]
   ·have h3:=wj e2
    rw [← h, ← a1,e1] at h3
    exact absurd rfl (zn hq [] (List.dropLast_subset _ (by rw [← h3];simp [yF,qo])))
  ·have h3:=wj e1
   by_cases e2:(qo q).dropLast = []
   ·rw [h, ← a2,e2] at h3
    exact absurd rfl (zn hp [] (List.dropLast_subset _ (by rw [← h3];simp [yF,qo])))
   ·rw [← h3,h,wj e2]
 have hl:=congrArg List.length hd
 rw [List.length_dropLast,List.length_dropLast] at hl
 apply List.ext_getElem
 ·rw [yz,yz,hl]
 ·intro i h1 h2
  rw [vD h1,vD h2]
  rw [yz] at h1 h2
  have g : ∀ l:List qQ,i < l.length - 1 → l.take (i + 1) = l.dropLast.take (i + 1):=fun l hl=>by
   rw [List.dropLast_eq_take,List.take_take,Nat.min_eq_left (by omega)]
  rw [g _ h1,g _ h2,hd]
theorem QO {p a:qQ} (hp:qy p = 0) (h:a ∈ jC p):qy a = 0:=by
 obtain ⟨h1,h2⟩:=V5.1 h
 obtain ⟨g1,g2⟩:=xy.1 hp
 have h3:=we.1 h1
 obtain ⟨r,hr,_⟩:=zw.1 h1
 exact xy.2 ⟨fun n hn=>g1 n (h3.subset hn),J1 g2 h3.length_le (by rw [hr];simp)⟩
theorem XI {m t o:List Ent} {p q:qQ} : ∀ {k n:Nat},xS m t o p k n = some q → ∃ j,n ≤ j ∧ j < n + k ∧ vz p (j:Int) = 0 ∧ q = yr p (j:Int) ∧ q7 m q = none ∧ q7 t q = none ∧ q7 o q = none
 | 0,n,h=>by cases h
 | k + 1,n,h=>by
   unfold xS at h
   split at h
   ·rename_i he
    split at h
    ·rename_i hf
     injection h with h
     subst h
     unfold JW at hf
     simp only [Bool.and_eq_true,Bool.not_eq_true',V0] at hf
     exact ⟨n,by omega,by omega,he,rfl,by simpa using hf.1.1,by simpa using hf.1.2,by simpa using hf.2⟩
    ·obtain ⟨j,h1,h2,h3⟩:=XI h
     exact ⟨j,by omega,by omega,h3⟩
   ·cases h
theorem Ws {m t:List Ent} {s s' : MS} {p x:qQ} (hp:qy p = 0) (h:zc m t s p x = some s') : ∃ q,s' = ⟨jN s.out ⟨q,false,x,1⟩,s.cps ++ [⟨p,q⟩]⟩ ∧ qy q = 0 ∧ qG q = qG p ∧ q7 m q = none ∧ q7 t q = none ∧ q7 s.out q = none:=by
 unfold zc at h
 cases hq:xS m t s.out p 99 1 with
 | none=>rw [hq] at h;cases h
 | some q =>
   rw [hq] at h
   injection h with h
   obtain ⟨j,h1,h2,h3,h4,h5,h6,h7⟩:=XI hq
   have he:vi p (j:Int) = 0:=by
    unfold vi
    rw [if_pos hp,if_neg (by omega),h3]
   have hb:=qaN he
   exact ⟨q,h.symm,by rw [h4];exact hb.1,by rw [h4];exact hb.2,h5,h6,h7⟩
structure MInv (o:List Ent):Prop where
 rise:q4 jr o = true
 ent : ∀ x,x ∈ o → xg x = 0
def vr (o:List Ent) (a:qQ):Prop:=(stT o a).kind = 1
theorem kF {t:List Ent} {x y:Ent} (hs:q4 jr t = true) (h:y ∈ jN t x):y = x ∨ y ∈ t:=((Vj hs y).1 h).imp id And.left
theorem qbM {o:List Ent} {x:Ent} (h:MInv o) (hx:xg x = 0):MInv (jN o x) :=
 ⟨yG h.rise,fun y hy=>by rcases kF h.rise hy with rfl|h1;exact hx;exact h.ent y h1⟩
theorem qbp {o:List Ent} {x:Ent} (hs:q4 jr o = true) (p:qQ):stT (jN o x) p = if p = x.path then xO x else stT o p:=by
 unfold stT
 rw [kf hs]
 by_cases h:p = x.path
 ·rw [if_pos h,if_pos h]
 ·rw [if_neg h,if_neg h]
theorem ZV {x:Ent} (h:xg x = 0):x.fold = true → x.text = []:=fun hf=>by
 have:=(j5 h).2.1
 exact Classical.byContradiction fun e=>this ⟨hf,e⟩
theorem qbX {o:List Ent} (h:MInv o) {p s:qQ} (hp:stT o p = ⟨2,s⟩):s.length ≤ 300:=by
 obtain ⟨x,h1,h2,h3⟩:=qgM.1 hp
 rw [← h3]
 exact (j5 (h.ent x (yV h1).1)).2.2.1
theorem K5 {x:Thg} (h:x.kind = 2):x = ⟨2,x.text⟩:=qfS h rfl
theorem ZJ {m t:List Ent} {s s' : MS} {p x:qQ} (hi:MInv s.out) (hp:qy p = 0) (hx:x.length ≤ 300) (h:zc m t s p x = some s') :
  MInv s'.out ∧ (∀ a,vr s.out a → vr s'.out a) ∧ ∀ y,y ∈ s'.out → y ∈ s.out ∨ jC y.path = jC p:=by
 obtain ⟨q,rfl,h1,h2,_,_,h5⟩:=Ws hp h
 refine ⟨qbM hi (J8 h1 (fun e=>by cases e) hx (by decide)),fun a ha=>?_,fun y hy=>?_⟩
 ·unfold vr at *
  show (stT (jN s.out _) a).kind = 1
  rw [qbp hi.rise]
  split
  ·rename_i e
   simp only at e
   subst e
   rw [KZ.2 h5] at ha;cases ha
  ·exact ha
 ·rcases kF hi.rise hy with rfl|h3
  ·exact .inr (qcR h1 hp h2)
  ·exact .inl h3
theorem YF {m t:List Ent} : ∀ {l:List (qQ × qQ)} {s s' : MS},MInv s.out → (∀ g,g ∈ l → qy g.1 = 0 ∧ g.2.length ≤ 300) → Vg m t l s = some s' → MInv s'.out
 | [],s,s',hi,_,h=>by
   injection h with h
   exact h ▸ hi
 | g :: l,s,s',hi,hg,h=>by
   unfold Vg at h
   cases hq:zc m t s g.1 g.2 with
   | none=>rw [hq] at h;cases h
   | some s1 =>
     rw [hq] at h
     have h1:=hg g (by simp)
     exact YF (ZJ hi h1.1 h1.2 hq).1 (fun g' hg'=>hg g' (by simp [hg'])) h
theorem qen {m t:List Ent} {s s' : MS} {q:qQ} (hi:MInv s.out) (hq:qy q = 0) (ha : ∀ a,a ∈ jC q → vr s.out a) (h:YY m t s q = some s') :
  MInv s'.out ∧ vr s'.out q ∧ (∀ a,vr s.out a → vr s'.out a) ∧ ∀ y,y ∈ s'.out → y ∈ s.out ∨ ∀ a,a ∈ jC y.path → vr s'.out a:=by
 unfold YY at h
 have hi1:MInv (jN s.out ⟨q,true,[],1⟩):=qbM hi (J8 hq (fun _=>rfl) (by simp) (by decide))
 have hf1 : ∀ a,vr s.out a → vr (jN s.out ⟨q,true,[],1⟩) a:=fun a h1=>by
  unfold vr at *
  rw [qbp hi.rise]
  split
  ·rfl
  ·exact h1
 have hq1:vr (jN s.out ⟨q,true,[],1⟩) q:=by
  unfold vr
  rw [qbp hi.rise,if_pos rfl];rfl
 split at h
 ·rename_i h1
  injection h with h
  subst h
  exact ⟨hi,h1,fun _ h=>h,fun y hy => .inl hy⟩
 ·split at h
  ·rename_i h2
   have hx:=qbX hi (K5 h2)
   obtain ⟨g1,g2,g3⟩:=ZJ (s:=⟨jN s.out ⟨q,true,[],1⟩,s.cps⟩) hi1 hq hx h
   refine ⟨g1,g2 q hq1,fun a h1=>g2 a (hf1 a h1),fun y hy=>?_⟩
   rcases g3 y hy with h3|h3
   ·rcases kF hi.rise h3 with rfl|h4
    ·exact .inr fun a h5=>g2 a (hf1 a (ha a h5))
    ·exact .inl h4
   ·exact .inr fun a h5=>g2 a (hf1 a (ha a (h3 ▸ h5)))
  ·injection h with h
   subst h
   refine ⟨hi1,hq1,hf1,fun y hy=>?_⟩
   rcases kF hi.rise hy with rfl|h4
   ·exact .inr fun a h5=>hf1 a (ha a h5)
   ·exact .inl h4
def Xb (o:List Ent) (qs:List qQ):Prop := ∀ A q B,qs = A ++ q :: B → ∀ a,a ∈ jC q → a ∈ A ∨ vr o a
theorem Wv (o:List Ent) (p:qQ):Xb o (jC p):=fun A q B h a ha=>by
 have hk:A.length < (jC p).length:=by rw [h];simp
 have hq:(jC p)[A.length] = q:=by simp [h]
 have h2:=qad hk
 rw [hq] at h2
 rw [h2,h,List.take_left] at ha
 exact .inl ha
theorem qaS {o:List Ent} {X Y:List qQ} (hx:Xb o X) (hy:Xb o Y):Xb o (X ++ Y):=fun A q B h a ha=>by
 rcases List.append_eq_append_iff.1 h with ⟨xs,h1,h2⟩|⟨bs,h1,h2⟩
 ·rcases hy xs q B h2 a ha with h3|h3
  ·exact .inl (by rw [h1];exact List.mem_append_right _ h3)
  ·exact .inr h3
 ·cases bs with
  | nil =>
    rw [List.nil_append] at h2
    rcases hy [] q B h2.symm a ha with h3|h3
    ·cases h3
    ·exact .inr h3
  | cons b bs =>
    rw [List.cons_append] at h2
    injection h2 with h2 h3
    subst h2
    exact hx A q bs h1 a ha
theorem XL (o:List Ent) : ∀ L:List qQ,Xb o (L.flatMap jC)
 | []=>fun A q B h=>by simp at h
 | p :: L=>by rw [List.flatMap_cons];exact qaS (Wv o p) (XL o L)
theorem Ka {m t:List Ent} : ∀ {qs:List qQ} {s s' : MS},MInv s.out → Xb s.out qs → (∀ q,q ∈ qs → qy q = 0) → (∀ x,x ∈ s.out → ∀ a,a ∈ jC x.path → vr s.out a ∨ a ∈ qs) → kn m t qs s = some s' →
  MInv s'.out ∧ ∀ x,x ∈ s'.out → ∀ a,a ∈ jC x.path → vr s'.out a
 | [],s,s',hi,_,_,ha,h=>by
   injection h with h
   subst h
   exact ⟨hi,fun x hx a h1=>(ha x hx a h1).resolve_right (by simp)⟩
 | q :: qs,s,s',hi,hc,hq,ha,h=>by
   unfold kn at h
   cases h1:YY m t s q with
   | none=>rw [h1] at h;cases h
   | some s1 =>
     rw [h1] at h
     obtain ⟨g1,g2,g3,g4⟩:=qen hi (hq q (by simp)) (fun a h2=>(hc [] q qs rfl a h2).resolve_left (by simp)) h1
     refine Ka g1 (fun A r B e a h2=>?_) (fun r hr=>hq r (by simp [hr])) (fun x hx a h2=>?_) h
     ·rcases hc (q :: A) r B (by rw [e];rfl) a h2 with h3|h3
      ·rcases List.mem_cons.1 h3 with rfl|h3
       ·exact .inr g2
       ·exact .inl h3
      ·exact .inr (g3 a h3)
     ·rcases g4 x hx with h3|h3
      ·rcases ha x h3 a h2 with h4|h4
       ·exact .inl (g3 a h4)
       ·rcases List.mem_cons.1 h4 with rfl|h4
        ·exact .inl g2
        ·exact .inr h4
      ·exact .inl (h3 a h2)
theorem JJ (b m t:List Ent) : ∀ {P:List qQ} {o:List Ent},q4 jr o = true →
  q4 jr (P.foldl (fun o p=>wJ o p (xZ b m t p).1) o) = true ∧
  ∀ p,q7 (P.foldl (fun o p=>wJ o p (xZ b m t p).1) o) p = if p ∈ P ∧ ¬ (xZ b m t p).1.kind = 0 then some (Q4 p (xZ b m t p).1) else q7 o p
 | [],o,hs=>⟨hs,fun p=>by simp⟩
 | q :: P,o,hs=>by
   have hs1:q4 jr (wJ o q (xZ b m t q).1) = true:=by
    unfold wJ
    split
    ·exact hs
    ·exact yG hs
   obtain ⟨h1,h2⟩:=JJ b m t (P:=P) hs1
   refine ⟨h1,fun p=>?_⟩
   rw [List.foldl_cons,h2]
   by_cases hk:(xZ b m t p).1.kind = 0
   ·rw [if_neg (fun h=>h.2 hk),if_neg (fun h=>h.2 hk)]
    unfold wJ
    split
    ·rfl
    ·rename_i hq
     rw [kf hs,if_neg]
     rintro e
     simp only [Q4] at e
     subst e
     exact hq hk
   ·by_cases hp:p ∈ P
    ·rw [if_pos ⟨hp,hk⟩,if_pos ⟨by simp [hp],hk⟩]
    ·rw [if_neg (fun h=>hp h.1)]
     by_cases e:p = q
     ·subst e
      rw [if_pos ⟨by simp,hk⟩]
      unfold wJ
      rw [if_neg hk,kf hs];exact if_pos rfl
     ·rw [if_neg (fun h=>by rcases List.mem_cons.1 h.1 with h1|h1;exact e h1;exact hp h1)]
      unfold wJ
      split
      ·rfl
      ·rw [kf hs,if_neg]
       exact e
theorem KY {u:List Ent} (hu:MInv u) (p:qQ):(stT u p).text.length ≤ 300:=by
 rcases kv u p with ⟨_,h⟩|⟨_,h⟩|h
 ·rw [h];simp
 ·rw [h];simp
 ·exact qbX hu (K5 h)
theorem qbS {b x y:Thg} (hx:x.text.length ≤ 300) (hy:y.text.length ≤ 300):(JQ b x y).1.text.length ≤ 300 ∧ (JQ b x y).2.text.length ≤ 300:=by
 have hn:noT.text.length ≤ 300:=by decide
 unfold JQ
 (repeat' split)<;>exact ⟨by assumption,by assumption⟩
theorem JL {t:List Ent} (h:Right t):MInv t:=⟨h.rise,h.ent⟩
theorem Qs {b m t:List Ent} (hb:Right b) (hm:Right m) (ht:Right t) {p:qQ} (h:p ∈ zb b m t):qy p = 0:=by
 have g : ∀ u:List Ent,Right u → ¬ q7 u p = none → qy p = 0:=fun u hu h1=>by
  cases h2:q7 u p with
  | none=>exact absurd h2 h1
  | some x =>
    obtain ⟨h3,h4⟩:=yV h2
    have:=(j5 (hu.ent x h3)).1
    rw [h4] at this;exact this
 rcases qef.1 h with h1|h1|h1
 ·exact g b hb h1
 ·exact g m hm h1
 ·exact g t ht h1
theorem Vo {b m t:List Ent} (hb:Right b) (hm:Right m) (ht:Right t):MInv (xH b m t (zb b m t)):=by
 obtain ⟨h1,h2⟩:=JJ b m t (P:=zb b m t) (o:=[]) rfl
 refine ⟨h1,fun x hx=>?_⟩
 have h3:=wB h1 hx
 rw [h2] at h3
 split at h3
 ·rename_i h4
  injection h3 with h3
  have hg:=(W5 (b:=stT b x.path) (kv m x.path) (kv t x.path)).1
  have hl:=(qbS (b:=stT b x.path) (KY (JL hm) x.path) (KY (JL ht) x.path)).1
  have hpe:=Qs hb hm ht h4.1
  rw [← h3]
  refine J8 hpe (fun e=>?_) hl (by decide)
  have e:(xZ b m t x.path).1.kind = 1:=by simpa using e
  rcases hg with ⟨k1,k2⟩|⟨k1,k2⟩|k1
  ·exact k2
  ·exact k2
  ·exact absurd (k1.symm.trans e) (by decide)
 ·cases h3
theorem QE {b m t:List Ent} (hb:Right b) (hm:Right m) (ht:Right t) : ∀ g,g ∈ yx b m t (zb b m t) → qy g.1 = 0 ∧ g.2.length ≤ 300:=by
 intro g hg
 obtain ⟨p,h1,h2⟩:=List.mem_filterMap.1 hg
 split at h2
 ·injection h2 with h2
  subst h2
  exact ⟨Qs hb hm ht h1,(qbS (b:=stT b p) (KY (JL hm) p) (KY (JL ht) p)).2⟩
 ·cases h2
theorem YO {b m t:List Ent} {s:MS} (hb:Right b) (hm:Right m) (ht:Right t) (h:vI b m t = some s):MInv s.out ∧ ∀ x,x ∈ s.out → ∀ a,a ∈ jC x.path → vr s.out a:=by
 unfold vI at h
 cases h1:Vg m t (yx b m t (zb b m t)) ⟨xH b m t (zb b m t),[]⟩ with
 | none=>rw [h1] at h;cases h
 | some s1 =>
   rw [h1] at h
   have hi:=YF (s:=⟨xH b m t (zb b m t),[]⟩) (Vo hb hm ht) (QE hb hm ht) h1
   refine Ka hi (XL _ _) (fun q hq=>?_) (fun x hx a ha=>?_) h
   ·obtain ⟨p,h2,h3⟩:=List.mem_flatMap.1 hq
    obtain ⟨x,h4,rfl⟩:=List.mem_map.1 h2
    exact QO (j5 (hi.ent x h4)).1 h3
   ·exact .inr (List.mem_flatMap.2 ⟨x.path,List.mem_map.2 ⟨x,hx,rfl⟩,ha⟩)
theorem WU {f:Ent → Ent} (hf : ∀ x,(f x).path = x.path) (t:List Ent) (p:qQ):q7 (t.map f) p = (q7 t p).map f:=by
 unfold q7
 rw [List.find?_map]
 congr 2
 funext x
 simp [atP,hf]
theorem qbj {f:Ent → Ent} (hf : ∀ x,(f x).path = x.path) {t:List Ent} (h:q4 jr t = true):q4 jr (t.map f) = true:=by
 rw [xB] at *
 rw [List.pairwise_map]
 exact h.imp fun {a b} hab=>by rw [hf,hf];exact hab
theorem qgN {m t:List Ent} (hm:Right m) (ht:Right t) (e:Ent):vH (kK m t e) = true:=by
 have g : ∀ u:List Ent,Right u → ∀ v,zU u e = some v → vH v = true:=fun u hu v h=>by
  unfold zU at h
  split at h
  ·cases h
  ·rename_i x hx
   split at h
   ·injection h with h
    rw [← h]
    exact (j5 (hu.ent x (yV hx).1)).2.2.2
   ·cases h
 unfold kK
 cases h1:zU t e with
 | some v=>exact g t ht v h1
 | none =>
   cases h2:zU m e with
   | some v=>exact g m hm v h2
   | none=>rfl
theorem YN {b m t:List Ent} (hb:Right b) (hm:Right m) (ht:Right t) (h:(vW b m t).2.2 = 0):Right (vW b m t).1:=by
 unfold vW at *
 cases h1:vI b m t with
 | none=>rw [h1] at h;exact absurd (show (2:Int) = 0 from h) (by decide)
 | some s =>
   rw [h1] at h
   simp only at h ⊢
   split at h
   ·exact absurd (show (2:Int) = 0 from h) (by decide)
   ·rename_i h60
    rw [if_neg h60]
    show Right (s.out.map (zH m t))
    obtain ⟨hi,ha⟩:=YO hb hm ht h1
    refine JZ (qbj (f:=zH m t) (fun _=>rfl) hi.rise) (by rw [List.length_map];omega) fun p x hx=>?_
    rw [WU (f:=zH m t) (fun _=>rfl)] at hx
    obtain ⟨y,hy,rfl⟩:=Option.map_eq_some_iff.1 hx
    obtain ⟨hy1,hy2⟩:=yV hy
    have he:=hi.ent y hy1
    obtain ⟨e1,e2,e3,e4⟩:=j5 he
    refine ⟨J8 (p:=y.path) e1 (ZV he) e3 (qgN hm ht y),?_⟩
    rw [← hy2]
    by_cases hp:qG y.path = []
    ·exact .inl hp
    ·right
     have hf:=ha y hy1 (qG y.path) (V5.2 ⟨KM e1 hp,qeo e1⟩)
     obtain ⟨z,hz1,hz2⟩:=qeA.1 hf
     exact ⟨zH m t z,by rw [WU (f:=zH m t) (fun _=>rfl),hz1];rfl,hz2⟩
def qhi (e:Ent):Ent := { e with ver:=1 }
theorem qeC {x:Ent} (h:xg x = 0):Q4 x.path (xO x) = qhi x:=by
 obtain ⟨p,f,s,v⟩:=x
 cases f with
 | true =>
   have:=ZV h rfl
   simp at this
   subst this
   rfl
 | false=>rfl
def Xu (e:Ent):qQ × Bool × qQ:=(e.path,e.fold,e.text)
theorem XK {m t:List Ent} {s s' : MS} {p x:qQ} (h:zc m t s p x = some s'):s'.cps.length = s.cps.length + 1:=by
 unfold zc at h
 split at h
 ·cases h
 ·injection h with h
  rw [← h];simp
theorem WM {m t:List Ent} : ∀ {l:List (qQ × qQ)} {s s' : MS},Vg m t l s = some s' → s'.cps.length = s.cps.length + l.length
 | [],s,s',h=>by injection h with h;rw [h];rfl
 | g :: l,s,s',h=>by
   unfold Vg at h
   cases h1:zc m t s g.1 g.2 with
   | none=>rw [h1] at h;cases h
   | some s1 =>
     rw [h1] at h
     have:=WM h
     have:=XK h1
     simp only [List.length_cons]
     omega
end Go.Proofs.YtnhpclmbhbblbaaGreatDoor
set_option linter.unusedSimpArgs false
set_option linter.unnecessarySimpa false
set_option linter.unusedVariables false
namespace Go.Proofs.YtnhpclmbhbblbaaGreatDoor
open Go.Op
structure KInv (m t:List Ent) (s:MS):Prop where
 inv:MInv s.out
 cp : ∀ c,c ∈ s.cps → q7 m c.at_ = none ∧ q7 t c.at_ = none
end Go.Proofs.YtnhpclmbhbblbaaGreatDoor
set_option linter.unusedSimpArgs false
set_option linter.unnecessarySimpa false
set_option maxHeartbeats 1000000
namespace Go.Proofs.YtnhpclmbhbblbaaGreatDoor
open Go.Ab Go.RowKit
set_option maxRecDepth 10000
attribute [local irreducible] Awp yl jE jl Red qX Go.Ab.Fin qW Rz vl jj ji ResOk jV jz yb jv
def decX (k i:Nat):Nat:=if i = 0 then k else k / 10
def qdO (k i:Nat):qQ:=if i = 0 then [] else [UInt8.ofNat (48 + ((k % 10:Nat):Int)).toNat]
theorem K6 (k:Nat):(48 + (k:Int)).toNat = 48 + k:=by omega
theorem qb5 (k:Nat) (hk:k < 100):yO C.P 70 [.v (.int .i64 (k:Int))] (.v (str (ko (k:Int)))):=by
 refine qa Tryz.func70 rfl _ Tryz.ntmps70 (Nat.le_of_ble_eq_true rfl) _ Tryz.results70 0 rfl rfl ?_
 repeat' (first|refine qm ?_|fail|((first|refine xsC ?_ ?_);all_goals (intro hc;have hp:=hc;try simp at hp;try (exfalso;omega)))|refine qO ?_ ?_)
 all_goals try (exfalso;omega)
 (refine Awp.red (qv (ts:=[(0,.v (.int .i64 ((decX k 0:Nat):Int))),(3,.v (str (qdO k 0)))]) ?_) ?_;((repeat (first|exact qg|refine qn ?_|refine qS ?_ ?_))))
 refine qP (fun n σ => ∃ i:Nat,i ≤ [(),()].length ∧ n = [(),()].length - i ∧ (i = 0 ∨ (i = 1 ∧ 10 ≤ k)) ∧ σ = ⟨[(0,.v (.int .i64 ((decX k i:Nat):Int))),(3,.v (str (qdO k i)))],[],C.nh⟩) [(),()].length ⟨0,Nat.zero_le _,rfl,(.inl rfl),rfl⟩ ?_
 rintro n σ ⟨i,hi,rfl,hsofar,rfl⟩
 rcases hsofar with rfl|⟨rfl,hk10⟩
 ·rw [show decX k 0 = k from rfl,show qdO k 0 = [] from rfl]
  repeat' (first|refine qm ?_|(first|(apply qf;apply qd2 (b:=10);rfl;rfl;decide;exact nle rfl)|(apply qf;apply qd1 (b:=10);rfl;rfl;decide;omega;exact nle rfl)|(apply qf;apply X8;rfl;rfl;rfl;rfl;rfl;exact IntWalk.u8_in _ (by omega);exact nle rfl)|(refine jM ?_)|(apply qf;apply WA;rfl;rfl;rfl;rfl;rfl;rfl;rfl;exact nle rfl))|((first|refine xsC ?_ ?_);all_goals (intro hc;have hp:=hc;try simp at hp;try (exfalso;omega)))|refine qO ?_ ?_)
  all_goals try (exfalso;omega)
  ·have h10:k % 10 = k:=Nat.mod_eq_of_lt (by omega)
   have hd:ko (k:Int) = [UInt8.ofNat (48 + k)]:=by unfold ko;rw [if_pos (by omega)];simp
   (refine yP (rs:=[.tmp 2]) ?_;(repeat' (first|exact q5|apply qH|exact q8 rfl|exact yn|exact zA|apply jR|apply yL|apply jJ|apply yJ|apply ya|apply yK|refine zi ?_|apply va));all_goals (rw [hd,h10,K6];rfl))
  ·have hkk:10 ≤ k:=by omega
   refine ⟨1,_,by decide,qv (ts:=[(0,.v (.int .i64 ((decX k 1:Nat):Int))),(3,.v (str (qdO k 1)))]) ?_,1,by decide,rfl,.inr ⟨rfl,hkk⟩,rfl⟩
   ((repeat (first|exact qg|refine qn ?_|refine qS ?_ ?_));all_goals (first|rfl|(rw [List.append_nil];rfl)))
 ·rw [show decX k 1 = k / 10 from rfl,show qdO k 1 = [UInt8.ofNat (48 + ((k % 10:Nat):Int)).toNat] from rfl]
  repeat' (first|refine qm ?_|(first|(apply qf;apply qd2 (b:=10);rfl;rfl;decide;exact nle rfl)|(apply qf;apply qd1 (b:=10);rfl;rfl;decide;omega;exact nle rfl)|(apply qf;apply X8;rfl;rfl;rfl;rfl;rfl;exact IntWalk.u8_in _ (by omega);exact nle rfl)|(refine jM ?_)|(apply qf;apply WA;rfl;rfl;rfl;rfl;rfl;rfl;rfl;exact nle rfl))|((first|refine xsC ?_ ?_);all_goals (intro hc;have hp:=hc;try simp at hp;try (exfalso;omega)))|refine qO ?_ ?_)
  all_goals try (exfalso;omega)
  have h10:k / 10 % 10 = k / 10:=Nat.mod_eq_of_lt (by omega)
  have hd:ko (k:Int) = [UInt8.ofNat (48 + k / 10),UInt8.ofNat (48 + k % 10)]:=by unfold ko;rw [if_neg (by omega)];simp
  (refine yP (rs:=[.tmp 2]) ?_;(repeat' (first|exact q5|apply qH|exact q8 rfl|exact yn|exact zA|apply jR|apply yL|apply jJ|apply yJ|apply ya|apply yK|refine zi ?_|apply va));all_goals (rw [hd,h10,K6,K6];rfl))
theorem QI (c x:UInt8) : ∀ (s:qQ),j9 c (s ++ [x]) = if x = c then (s.length:Int) else j9 c s
 | []=>by
   by_cases h:x = c<;>simp [j9,h]
 | y :: s=>by
   have ih:=QI c x s
   simp only [List.cons_append,j9,ih]
   by_cases h:x = c
   ·simp only [h,if_true]
    rw [if_pos (by omega)];simp
   ·simp only [h,if_false]
def atN (s:qQ) (i:Nat):Nat:=if 0 < j9 46 (s.take i) then (j9 46 (s.take i)).toNat else s.length
theorem qeZ (s:qQ):atN s 1 = s.length:=by
 unfold atN
 have:(s.take 1).length ≤ 1:=by rw [List.length_take];omega
 have:=wA 46 (s.take 1)
 rw [if_neg (by omega)]
theorem qeY {s:qQ} {i:Nat} (h:i < s.length) (h0:0 < i) (hc:s[i] = 46):atN s (i + 1) = i:=by
 unfold atN
 rw [List.take_succ_eq_append_getElem h,QI,if_pos hc,List.length_take,Nat.min_eq_left (by omega)]
 rw [if_pos (by omega)];omega
theorem qcg {s:qQ} {i:Nat} (h:i < s.length) (hc:¬ s[i] = 46):atN s (i + 1) = atN s i:=by
 unfold atN
 rw [List.take_succ_eq_append_getElem h,QI,if_neg hc]
theorem qgw (s:qQ) (i:Nat):atN s i ≤ s.length:=by
 unfold atN
 split
 ·have h1:=wA 46 (s.take i)
  have h2:(s.take i).length ≤ s.length:=by rw [List.length_take];omega
  omega
 ·exact Nat.le_refl _
theorem qeX {s:qQ} {i:Nat} (h:s.length ≤ i):s.take (atN s i) = vd s ∧ (s.take s.length).drop (atN s i) = zg s:=by
 unfold atN vd zg
 rw [List.take_of_length_le h,List.take_length]
 by_cases h0:0 < j9 46 s
 ·simp [h0]
 ·simp [h0]
end Go.Proofs.YtnhpclmbhbblbaaGreatDoor
