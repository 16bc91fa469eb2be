import Derived.Test.YtnhpclmbhbblbaaGreatDoorMz13
import Derived.Test.YtnhpclmbhbblbaaGreatDoorMz12
set_option linter.unusedSimpArgs false
set_option linter.unnecessarySimpa false
set_option linter.unusedVariables false
namespace Go.Proofs.YtnhpclmbhbblbaaGreatDoor
open Go.Op
structure Right (t:List Ent):Prop where
 len:t.length ≤ 60
 ent : ∀ x,x ∈ t → yi x = 0
 rise:qY jn t = true
 par : ∀ x,x ∈ t → xI t (qO x.path) = 0
theorem xl {t:List Ent}:qI t = 0 ↔ Right t:=by
 constructor
 ·intro h
  obtain ⟨h1,h2,h3,h4⟩:=Xs h
  exact ⟨h1,h2,h3,h4⟩
 ·intro h
  have h1:¬ 60 < t.length:=by have:=h.len;omega
  have h2:t.any (fun x=>decide (jU t x = 5)) = false:=by
   rw [List.any_eq_false];intro x hx
   have:jU t x = 0:=h.par x hx
   simp [this]
  have h3:t.any (fun x=>decide (¬ jU t x = 0)) = false:=by
   rw [List.any_eq_false];intro x hx
   have:jU t x = 0:=h.par x hx
   simp [this]
  unfold qI
  rw [if_neg h1,if_pos (xA.2 h.ent),if_pos h.rise,h2,h3]
  rfl
theorem Vg {t:List Ent} {q:qJ}:xI t q = 0 ↔ q = [] ∨ ∃ y,q5 t q = some y ∧ y.fold = true:=by
 unfold xI q5
 by_cases hq:q = []
 ·simp [hq]
 ·rw [if_neg hq]
  cases h:t.find? (atP q) with
  | none=>simp [hq]
  | some x=>cases hf:x.fold<;>simp [hq,hf]
theorem kV {p:qJ} (h:qE p = 0) : ∀ n,n ∈ qn p → n ≠ []:=fun n hn e=>by
 have:=(yo.1 h).1 n hn
 rw [e,JL] at this;cases this
theorem zP {p:qJ} (h:(qn p).dropLast ≠ []):qn (qO p) = (qn p).dropLast:=by
 obtain ⟨h1,h2⟩:=xH p
 rw [← h2]
 exact kf h fun n hn=>zY p n (List.dropLast_subset _ hn)
where names_pos' (p:qJ):0 < (qn p).length:=List.length_pos_iff.2 (yI p)
theorem qbW {p:qJ} (hp:qE p = 0):¬ qO p = p:=fun e=>by
 obtain ⟨h1,h2⟩:=xH p
 have h3:(qn p).dropLast ≠ [] ∨ (qn p).dropLast = []:=(Decidable.em _).symm
 rcases h3 with h3|h3
 ·have:=zP h3
  rw [e] at this
  have hl:=congrArg List.length this
  rw [List.length_dropLast] at hl
  have:=List.length_pos_iff.2 (yI p)
  omega
 ·rw [h3] at h2
  have:p = []:=by rw [← e, ← h2];rfl
  subst this
  exact kV hp [] (by simp [qn]) rfl
theorem qby {p:qJ} (hp:qE p = 0) (hne:¬ qO p = []):X5 p (qO p) = true:=by
 obtain ⟨h1,h2⟩:=xH p
 have hdn:(qn p).dropLast ≠ []:=fun e=>hne (by rw [← h2,e];rfl)
 rw [wm,zP hdn]
 exact List.dropLast_prefix _
theorem YK {u:List Ent} (hs:qY jn u = true) (hl:u.length ≤ 60) (h : ∀ p x,q5 u p = some x → yi x = 0 ∧ (qO p = [] ∨ ∃ y,q5 u (qO p) = some y ∧ y.fold = true)):Right u :=
 ⟨hl,fun x hx=>(h _ x (zk hs hx)).1,hs,fun x hx=>Vg.2 (h _ x (zk hs hx)).2⟩
theorem Xw {p:qJ} {f:Bool} {s:qJ} {v:Int} (h1:qE p = 0) (h2:f = true → s = []) (h3:s.length ≤ 300) (h4:zW v = true):yi ⟨p,f,s,v⟩ = 0:=by
 unfold yi
 simp only
 rw [if_pos h1,if_neg (fun e=>e.2 (h2 e.1)),if_neg (by omega),if_pos h4]
end Go.Proofs.YtnhpclmbhbblbaaGreatDoor
set_option linter.unusedSimpArgs false
set_option linter.unnecessarySimpa false
set_option linter.unusedVariables false
namespace Go.Proofs.YtnhpclmbhbblbaaGreatDoor
open Go.Op
structure Thg where
 kind:Int
 text:qJ
 deriving DecidableEq
def noT:Thg:=⟨0,[]⟩
def yL (x:Ent):Thg:=if x.fold = true then ⟨1,[]⟩ else ⟨2,x.text⟩
def stT (t:List Ent) (p:qJ):Thg:=match q5 t p with|none=>noT|some x=>yL x
structure Cpy where
 path:qJ
 at_:qJ
 deriving DecidableEq
def kA (p:qJ) (x:Thg):Ent:=⟨p,decide (x.kind = 1),x.text,1⟩
def wo (b x y:Thg):Thg × Thg :=
 if x = y then (x,noT) else if x = b then (y,noT) else if y = b then (x,noT)
 else if x.kind = 1 then (x,y) else if y.kind = 1 then (y,x)
 else if x.kind = 2 ∧ y.kind = 2 then (y,x) else if x.kind = 2 then (x,noT) else (y,noT)
def zo (o:List Ent) (p:qJ) (x:Thg):List Ent:=if x.kind = 0 then o else jX o (kA p x)
def vf (l:List qJ) (s:qJ):List qJ:=if s ∈ l then l else l.takeWhile (fun x=>bytesLess x s) ++ s :: l.dropWhile (fun x=>bytesLess x s)
def xX (b m t:List Ent):List qJ:=((b ++ (m ++ t)).map Ent.path).foldl vf []
def yW (b m t:List Ent) (p:qJ):Thg × Thg:=wo (stT b p) (stT m p) (stT t p)
def yC (b m t:List Ent) (P:List qJ):List Ent:=P.foldl (fun o p=>zo o p (yW b m t p).1) []
def jO (b m t:List Ent) (P:List qJ):List (qJ × qJ):=P.filterMap fun p=>if (yW b m t p).2.kind = 2 then some (p,(yW b m t p).2.text) else none
def wy (m t o:List Ent) (q:qJ):Bool := !yJ m q && !yJ t q && !yJ o q
def yS (m t o:List Ent) (p:qJ):Nat → Nat → Option qJ
 | 0,_=>none
 | k + 1,n=>if xw p (n:Int) = 0 then (if wy m t o (jK p (n:Int)) = true then some (jK p (n:Int)) else yS m t o p k (n + 1)) else none
structure MS where
 out:List Ent
 cps:List Cpy
def xZ (m t:List Ent) (s:MS) (p x:qJ):Option MS :=
 match yS m t s.out p 99 1 with
 | none=>none
 | some q=>some ⟨jX s.out ⟨q,false,x,1⟩,s.cps ++ [⟨p,q⟩]⟩
def Jy (m t:List Ent):List (qJ × qJ) → MS → Option MS
 | [],s=>some s
 | g :: l,s=>match xZ m t s g.1 g.2 with|none=>none|some s'=>Jy m t l s'
def Qs (m t:List Ent) (s:MS) (q:qJ):Option MS :=
 if (stT s.out q).kind = 1 then some s
 else if (stT s.out q).kind = 2 then xZ m t ⟨jX s.out ⟨q,true,[],1⟩,s.cps⟩ q (stT s.out q).text
 else some ⟨jX s.out ⟨q,true,[],1⟩,s.cps⟩
def vI (m t:List Ent):List qJ → MS → Option MS
 | [],s=>some s
 | q :: l,s=>match Qs m t s q with|none=>none|some s'=>vI m t l s'
def je (p:qJ):List qJ:=(List.range ((qn p).length - 1)).map fun k=>jQ ((qn p).take (k + 1))
def xJ (b m t:List Ent):Option MS :=
 match Jy m t (jO b m t (xX b m t)) ⟨yC b m t (xX b m t),[]⟩ with
 | none=>none
 | some s=>vI m t ((s.out.map Ent.path).flatMap je) s
def vu (t:List Ent) (e:Ent):Option Int:=match q5 t e.path with|none=>none|some x=>if yL x = yL e then some x.ver else none
def vV (m t:List Ent) (e:Ent):Int:=match vu t e with|some v=>v|none=>match vu m e with|some v=>v|none=>1
def vi (m t:List Ent) (e:Ent):Ent := { e with ver:=vV m t e }
def x0 (b m t:List Ent):List Ent × List Cpy × Int :=
 match xJ b m t with
 | none=>([],[],2)
 | some s=>if 60 < s.out.length then ([],[],2) else (s.out.map (vi m t),s.cps,0)
def xi (b m t:List Ent):List Ent × List Cpy × Int:=if jd qI [b,m,t] = 0 then x0 b m t else ([],[],jd qI [b,m,t])
def v7 (x:Thg):Prop:=(x.kind = 0 ∧ x.text = []) ∨ (x.kind = 1 ∧ x.text = []) ∨ x.kind = 2
theorem qbb {x y:Thg} (h1:x.kind = y.kind) (h2:x.text = y.text):x = y:=by
 obtain ⟨a,b⟩:=x
 obtain ⟨c,d⟩:=y
 simp at h1 h2
 rw [h1,h2]
theorem qaU (x:Ent):v7 (yL x):=by
 unfold yL
 split
 ·exact .inr (.inl ⟨rfl,rfl⟩)
 ·exact .inr (.inr rfl)
theorem vN (t:List Ent) (p:qJ):v7 (stT t p):=by
 unfold stT
 split
 ·exact .inl ⟨rfl,rfl⟩
 ·exact qaU _
theorem Wv (x:Ent):(yL x).kind = 1 ∨ (yL x).kind = 2:=by
 unfold yL
 split
 ·exact .inl rfl
 ·exact .inr rfl
theorem Xm {t:List Ent} {p:qJ}:(stT t p).kind = 0 ↔ q5 t p = none:=by
 unfold stT
 cases h:q5 t p with
 | none=>simp [noT]
 | some x=>rcases Wv x with h1|h1<;>simp [h1]
theorem W4 {t:List Ent} {p:qJ}:(stT t p).kind = 1 ↔ ∃ x,q5 t p = some x ∧ x.fold = true:=by
 unfold stT
 cases h:q5 t p with
 | none=>simp [noT]
 | some x =>
   unfold yL
   cases hf:x.fold<;>simp [hf]
theorem qbQ {t:List Ent} {p s:qJ}:stT t p = ⟨2,s⟩ ↔ ∃ x,q5 t p = some x ∧ x.fold = false ∧ x.text = s:=by
 unfold stT
 cases h:q5 t p with
 | none=>simp [noT]
 | some x =>
   unfold yL
   cases hf:x.fold<;>simp [hf]
theorem XJ {p:qJ} {x:Thg} (h:v7 x) (h0:¬ x.kind = 0):yL (kA p x) = x:=by
 obtain ⟨k,s⟩:=x
 unfold yL kA
 rcases h with ⟨h,_⟩|⟨h,h2⟩|h
 ·exact absurd h h0
 ·simp at h h2;subst h;subst h2;rfl
 ·simp at h;subst h;rfl
theorem X9 {b x y:Thg} (hx:v7 x) (hy:v7 y):v7 (wo b x y).1 ∧ v7 (wo b x y).2:=by
 have hn:v7 noT := .inl ⟨rfl,rfl⟩
 unfold wo
 (repeat' split)<;>exact ⟨by assumption,by assumption⟩
def zL (l:List qJ):Prop:=l.Pairwise fun a b=>bytesLess a b = true
theorem Vs : ∀ {t u:List qJ},zL t → zL u → (∀ x,x ∈ t ↔ x ∈ u) → t = u
 | [],[],_,_,_=>rfl
 | [],y :: u,_,_,h=>absurd ((h y).2 (by simp)) (by simp)
 | x :: t,[],_,_,h=>absurd ((h x).1 (by simp)) (by simp)
 | x :: t,y :: u,ht,hu,h=>by
   have ht1:=List.pairwise_cons.1 ht
   have hu1:=List.pairwise_cons.1 hu
   have hxy:x = y:=by
    rcases List.mem_cons.1 ((h x).1 (by simp)) with h1|h1
    ·exact h1
    ·rcases List.mem_cons.1 ((h y).2 (by simp)) with h2|h2
     ·exact h2.symm
     ·have h3:=ht1.1 y h2
      have h4:=hu1.1 x h1
      rw [ZU h3] at h4;cases h4
   subst hxy
   refine congrArg _ (Vs ht1.2 hu1.2 fun z=>⟨fun hz=>?_,fun hz=>?_⟩)
   ·rcases List.mem_cons.1 ((h z).1 (by simp [hz])) with h1|h1
    ·subst h1
     have:=ht1.1 z hz
     rw [vG] at this;cases this
    ·exact h1
   ·rcases List.mem_cons.1 ((h z).2 (by simp [hz])) with h1|h1
    ·subst h1
     have:=hu1.1 z hz
     rw [vG] at this;cases this
    ·exact h1
theorem WR {l:List qJ} {s x:qJ}:x ∈ vf l s ↔ x = s ∨ x ∈ l:=by
 unfold vf
 split
 ·rename_i h
  constructor
  ·exact .inr
  ·rintro (rfl|h1)
   ·exact h
   ·exact h1
 ·have:l = l.takeWhile (fun x=>bytesLess x s) ++ l.dropWhile (fun x=>bytesLess x s):=List.takeWhile_append_dropWhile.symm
  constructor
  ·intro h
   rcases List.mem_append.1 h with h1|h1
   ·right;rw [this];exact List.mem_append_left _ h1
   ·rcases List.mem_cons.1 h1 with h2|h2
    ·exact .inl h2
    ·right;rw [this];exact List.mem_append_right _ h2
  ·rintro (rfl|h)
   ·exact List.mem_append_right _ (List.mem_cons_self ..)
   ·rw [this] at h
    rcases List.mem_append.1 h with h1|h1
    ·exact List.mem_append_left _ h1
    ·exact List.mem_append_right _ (List.mem_cons_of_mem _ h1)
theorem qap : ∀ {l:List qJ} {s:qJ},zL l → zL (vf l s):=by
 intro l s h
 unfold vf
 split
 ·exact h
 ·rename_i hs
  have key : ∀ {l:List qJ},zL l → s ∉ l → zL (l.takeWhile (fun x=>bytesLess x s) ++ s :: l.dropWhile (fun x=>bytesLess x s)):=by
   intro l
   induction l with
   | nil=>intro _ _;exact List.pairwise_singleton _ _
   | cons a l ih =>
     intro h hs
     have h1:=List.pairwise_cons.1 h
     simp only [List.mem_cons,not_or] at hs
     by_cases ha:bytesLess a s = true
     ·simp only [List.takeWhile_cons,List.dropWhile_cons,ha,if_true,List.cons_append]
      refine List.pairwise_cons.2 ⟨fun y hy=>?_,ih h1.2 hs.2⟩
      rcases List.mem_append.1 hy with h2|h2
      ·exact h1.1 y ((List.takeWhile_sublist _).subset h2)
      ·rcases List.mem_cons.1 h2 with rfl|h2
       ·exact ha
       ·exact h1.1 y ((List.dropWhile_sublist _).subset h2)
     ·have ha' : bytesLess a s = false:=by simpa using ha
      simp only [List.takeWhile_cons,List.dropWhile_cons,ha',Bool.false_eq_true,if_false,List.nil_append]
      have hsa:bytesLess s a = true:=by
       rcases zG s a with h2|h2|h2
       ·exact h2.1
       ·exact absurd h2.1 hs.1
       ·exact absurd h2.1 ha
      refine List.pairwise_cons.2 ⟨fun y hy=>?_,h⟩
      rcases List.mem_cons.1 hy with rfl|h2
      ·exact hsa
      ·exact vX hsa (h1.1 y h2)
  exact key h hs
theorem kL {L:List qJ} : ∀ {l:List qJ},zL l → zL (L.foldl vf l) ∧ ∀ x,x ∈ L.foldl vf l ↔ x ∈ L ∨ x ∈ l:=by
 induction L with
 | nil=>intro l h;exact ⟨h,fun x=>by simp⟩
 | cons a L ih =>
   intro l h
   obtain ⟨h1,h2⟩:=ih (qap (s:=a) h)
   refine ⟨h1,fun x=>?_⟩
   rw [List.foldl_cons,h2,WR,List.mem_cons]
   constructor
   ·rintro (h|h|h)
    ·exact .inl (.inr h)
    ·exact .inl (.inl h)
    ·exact .inr h
   ·rintro ((h|h)|h)
    ·exact .inr (.inl h)
    ·exact .inl h
    ·exact .inr (.inr h)
theorem WQ (b m t:List Ent):zL (xX b m t):=(kL List.Pairwise.nil).1
theorem qav {b m t:List Ent} {p:qJ}:p ∈ xX b m t ↔ ¬ q5 b p = none ∨ ¬ q5 m p = none ∨ ¬ q5 t p = none:=by
 have h1 : ∀ u:List Ent,p ∈ u.map Ent.path ↔ ¬ q5 u p = none:=fun u=>by
  rw [wc,List.mem_map]
  constructor
  ·rintro ⟨x,h1,h2⟩ h3;exact h3 x h1 h2
  ·intro h
   exact Classical.byContradiction fun h2=>h fun x hx e=>h2 ⟨x,hx,e⟩
 unfold xX
 rw [(kL List.Pairwise.nil).2,List.map_append,List.map_append,List.mem_append,List.mem_append,h1,h1,h1]
 simp
end Go.Proofs.YtnhpclmbhbblbaaGreatDoor
set_option linter.unusedSimpArgs false
set_option linter.unnecessarySimpa false
set_option linter.unusedVariables false
namespace Go.Proofs.YtnhpclmbhbblbaaGreatDoor
open Go.Op
theorem Qu {p:qJ} {k:Nat} (hk:k + 1 < (qn p).length):qn (jQ ((qn p).take (k + 1))) = (qn p).take (k + 1) :=
 kf (fun e=>by have h2:=congrArg List.length e;rw [List.length_take,List.length_nil] at h2;omega) fun n hn=>zY p n (List.mem_of_mem_take hn)
theorem J1 {p a:qJ}:a ∈ je p ↔ X5 p a = true ∧ ¬ a = p:=by
 unfold je
 rw [List.mem_map]
 constructor
 ·rintro ⟨k,hk,rfl⟩
  have hk:=List.mem_range.1 hk
  have hn:=Qu (p:=p) (k:=k) (by omega)
  refine ⟨by rw [wm,hn];exact List.take_prefix _ _,fun e=>?_⟩
  rw [e] at hn
  have:=congrArg List.length hn
  rw [List.length_take] at this
  omega
 ·rintro ⟨h1,h2⟩
  have h3:=wm.1 h1
  obtain ⟨s,hs⟩:=h3
  have hsn:s ≠ []:=fun e=>h2 (by rw [e,List.append_nil] at hs;rw [← yl a,hs,yl])
  have hl:=congrArg List.length hs
  rw [List.length_append] at hl
  have hp:=List.length_pos_iff.2 hsn
  have ha:=List.length_pos_iff.2 (yI a)
  refine ⟨(qn a).length - 1,List.mem_range.2 (by omega),?_⟩
  rw [show (qn a).length - 1 + 1 = (qn a).length from by omega, ← hs,List.take_left,yl]
theorem jP (p:qJ):(je p).length = (qn p).length - 1:=by simp [je]
theorem xC {p:qJ} {k:Nat} (hk:k < (je p).length):(je p)[k] = jQ ((qn p).take (k + 1)):=by simp [je]
theorem VN {p:qJ} {k:Nat} (hk:k < (je p).length):je (je p)[k] = (je p).take k:=by
 rw [jP] at hk
 rw [xC (by rw [jP];exact hk)]
 have hn:=Qu (p:=p) (k:=k) (by omega)
 apply List.ext_getElem
 ·rw [jP,hn,List.length_take,List.length_take,jP];omega
 ·intro i h1 h2
  rw [xC h1,List.getElem_take,xC,hn,List.take_take]
  congr 2
  rw [jP,hn,List.length_take] at h1
  omega
theorem KX {p q:qJ} (hp:qE p = 0) (hq:qE q = 0) (h:qO p = qO q):je p = je q:=by
 have hd:(qn p).dropLast = (qn q).dropLast:=by
  have a1:=(xH p).2
  have a2:=(xH q).2
  by_cases e1:(qn p).dropLast = []
  ·by_cases e2:(qn q).dropLast = []
   ·rw [e1,e2]
   ·have h3:=zP e2
    rw [← h, ← a1,e1] at h3
    exact absurd rfl (kV hq [] (List.dropLast_subset _ (by rw [← h3];simp [jQ,qn])))
  ·have h3:=zP e1
   by_cases e2:(qn q).dropLast = []
   ·rw [h, ← a2,e2] at h3
    exact absurd rfl (kV hp [] (List.dropLast_subset _ (by rw [← h3];simp [jQ,qn])))
   ·rw [← h3,h,zP e2]
 have hl:=congrArg List.length hd
 rw [List.length_dropLast,List.length_dropLast] at hl
 apply List.ext_getElem
 ·rw [jP,jP,hl]
 ·intro i h1 h2
  rw [xC h1,xC h2]
  rw [jP] at h1 h2
  have g : ∀ l:List qJ,i < l.length - 1 → l.take (i + 1) = l.dropLast.take (i + 1):=fun l hl=>by
   rw [List.dropLast_eq_take,List.take_take,Nat.min_eq_left (by omega)]
  rw [g _ h1,g _ h2,hd]
theorem ka {p a:qJ} (hp:qE p = 0) (h:a ∈ je p):qE a = 0:=by
 obtain ⟨h1,h2⟩:=J1.1 h
 obtain ⟨g1,g2⟩:=yo.1 hp
 have h3:=wm.1 h1
 obtain ⟨r,hr,_⟩:=qax.1 h1
 exact yo.2 ⟨fun n hn=>g1 n (h3.subset hn),ww g2 h3.length_le (by rw [hr];simp)⟩
theorem Q4 {m t o:List Ent} {p q:qJ} : ∀ {k n:Nat},yS m t o p k n = some q → ∃ j,n ≤ j ∧ j < n + k ∧ xw p (j:Int) = 0 ∧ q = jK p (j:Int) ∧ q5 m q = none ∧ q5 t q = none ∧ q5 o q = none
 | 0,n,h=>by cases h
 | k + 1,n,h=>by
   unfold yS at h
   split at h
   ·rename_i he
    split at h
    ·rename_i hf
     injection h with h
     subst h
     unfold wy at hf
     simp only [Bool.and_eq_true,Bool.not_eq_true',Yz] at hf
     exact ⟨n,by omega,by omega,he,rfl,by simpa using hf.1.1,by simpa using hf.1.2,by simpa using hf.2⟩
    ·obtain ⟨j,h1,h2,h3⟩:=Q4 h
     exact ⟨j,by omega,by omega,h3⟩
   ·cases h
theorem VD {m t:List Ent} {s s' : MS} {p x:qJ} (hp:qE p = 0) (h:xZ m t s p x = some s') : ∃ q,s' = ⟨jX s.out ⟨q,false,x,1⟩,s.cps ++ [⟨p,q⟩]⟩ ∧ qE q = 0 ∧ qO q = qO p ∧ q5 m q = none ∧ q5 t q = none ∧ q5 s.out q = none:=by
 unfold xZ at h
 cases hq:yS m t s.out p 99 1 with
 | none=>rw [hq] at h;cases h
 | some q =>
   rw [hq] at h
   injection h with h
   obtain ⟨j,h1,h2,h3,h4,h5,h6,h7⟩:=Q4 hq
   have he:xd p (j:Int) = 0:=by
    unfold xd
    rw [if_pos hp,if_neg (by omega),h3]
   have hb:=Zp he
   exact ⟨q,h.symm,by rw [h4];exact hb.1,by rw [h4];exact hb.2,h5,h6,h7⟩
structure MInv (o:List Ent):Prop where
 rise:qY jn o = true
 ent : ∀ x,x ∈ o → yi x = 0
def xq (o:List Ent) (a:qJ):Prop:=(stT o a).kind = 1
theorem vW {t:List Ent} {x y:Ent} (hs:qY jn t = true) (h:y ∈ jX t x):y = x ∨ y ∈ t:=((Jq hs y).1 h).imp id And.left
theorem Z6 {o:List Ent} {x:Ent} (h:MInv o) (hx:yi x = 0):MInv (jX o x) :=
 ⟨j6 h.rise,fun y hy=>by rcases vW h.rise hy with rfl|h1;exact hx;exact h.ent y h1⟩
theorem ZL {o:List Ent} {x:Ent} (hs:qY jn o = true) (p:qJ):stT (jX o x) p = if p = x.path then yL x else stT o p:=by
 unfold stT
 rw [Qy hs]
 by_cases h:p = x.path
 ·rw [if_pos h,if_pos h]
 ·rw [if_neg h,if_neg h]
theorem YW {x:Ent} (h:yi x = 0):x.fold = true → x.text = []:=fun hf=>by
 have:=(yR h).2.1
 exact Classical.byContradiction fun e=>this ⟨hf,e⟩
theorem Kc {o:List Ent} (h:MInv o) {p s:qJ} (hp:stT o p = ⟨2,s⟩):s.length ≤ 300:=by
 obtain ⟨x,h1,h2,h3⟩:=qbQ.1 hp
 rw [← h3]
 exact (yR (h.ent x (vK h1).1)).2.2.1
theorem XE {x:Thg} (h:x.kind = 2):x = ⟨2,x.text⟩:=qbb h rfl
theorem YX {m t:List Ent} {s s' : MS} {p x:qJ} (hi:MInv s.out) (hp:qE p = 0) (hx:x.length ≤ 300) (h:xZ m t s p x = some s') :
  MInv s'.out ∧ (∀ a,xq s.out a → xq s'.out a) ∧ ∀ y,y ∈ s'.out → y ∈ s.out ∨ je y.path = je p:=by
 obtain ⟨q,rfl,h1,h2,_,_,h5⟩:=VD hp h
 refine ⟨Z6 hi (Xw h1 (fun e=>by cases e) hx (by decide)),fun a ha=>?_,fun y hy=>?_⟩
 ·unfold xq at *
  show (stT (jX s.out _) a).kind = 1
  rw [ZL hi.rise]
  split
  ·rename_i e
   simp only at e
   subst e
   rw [Xm.2 h5] at ha;cases ha
  ·exact ha
 ·rcases vW hi.rise hy with rfl|h3
  ·exact .inr (KX h1 hp h2)
  ·exact .inl h3
theorem Qz {m t:List Ent} : ∀ {l:List (qJ × qJ)} {s s' : MS},MInv s.out → (∀ g,g ∈ l → qE g.1 = 0 ∧ g.2.length ≤ 300) → Jy m t l s = some s' → MInv s'.out
 | [],s,s',hi,_,h=>by
   injection h with h
   exact h ▸ hi
 | g :: l,s,s',hi,hg,h=>by
   unfold Jy at h
   cases hq:xZ m t s g.1 g.2 with
   | none=>rw [hq] at h;cases h
   | some s1 =>
     rw [hq] at h
     have h1:=hg g (by simp)
     exact Qz (YX hi h1.1 h1.2 hq).1 (fun g' hg'=>hg g' (by simp [hg'])) h
theorem qac {m t:List Ent} {s s' : MS} {q:qJ} (hi:MInv s.out) (hq:qE q = 0) (ha : ∀ a,a ∈ je q → xq s.out a) (h:Qs m t s q = some s') :
  MInv s'.out ∧ xq s'.out q ∧ (∀ a,xq s.out a → xq s'.out a) ∧ ∀ y,y ∈ s'.out → y ∈ s.out ∨ ∀ a,a ∈ je y.path → xq s'.out a:=by
 unfold Qs at h
 have hi1:MInv (jX s.out ⟨q,true,[],1⟩):=Z6 hi (Xw hq (fun _=>rfl) (by simp) (by decide))
 have hf1 : ∀ a,xq s.out a → xq (jX s.out ⟨q,true,[],1⟩) a:=fun a h1=>by
  unfold xq at *
  rw [ZL hi.rise]
  split
  ·rfl
  ·exact h1
 have hq1:xq (jX s.out ⟨q,true,[],1⟩) q:=by
  unfold xq
  rw [ZL hi.rise,if_pos rfl];rfl
 split at h
 ·rename_i h1
  injection h with h
  subst h
  exact ⟨hi,h1,fun _ h=>h,fun y hy => .inl hy⟩
 ·split at h
  ·rename_i h2
   have hx:=Kc hi (XE h2)
   obtain ⟨g1,g2,g3⟩:=YX (s:=⟨jX s.out ⟨q,true,[],1⟩,s.cps⟩) hi1 hq hx h
   refine ⟨g1,g2 q hq1,fun a h1=>g2 a (hf1 a h1),fun y hy=>?_⟩
   rcases g3 y hy with h3|h3
   ·rcases vW hi.rise h3 with rfl|h4
    ·exact .inr fun a h5=>g2 a (hf1 a (ha a h5))
    ·exact .inl h4
   ·exact .inr fun a h5=>g2 a (hf1 a (ha a (h3 ▸ h5)))
  ·injection h with h
   subst h
   refine ⟨hi1,hq1,hf1,fun y hy=>?_⟩
   rcases vW hi.rise hy with rfl|h4
   ·exact .inr fun a h5=>hf1 a (ha a h5)
   ·exact .inl h4
def QQ (o:List Ent) (qs:List qJ):Prop := ∀ A q B,qs = A ++ q :: B → ∀ a,a ∈ je q → a ∈ A ∨ xq o a
theorem VC (o:List Ent) (p:qJ):QQ o (je p):=fun A q B h a ha=>by
 have hk:A.length < (je p).length:=by rw [h];simp
 have hq:(je p)[A.length] = q:=by simp [h]
 have h2:=VN hk
 rw [hq] at h2
 rw [h2,h,List.take_left] at ha
 exact .inl ha
theorem Zi {o:List Ent} {X Y:List qJ} (hx:QQ o X) (hy:QQ o Y):QQ o (X ++ Y):=fun A q B h a ha=>by
 rcases List.append_eq_append_iff.1 h with ⟨xs,h1,h2⟩|⟨bs,h1,h2⟩
 ·rcases hy xs q B h2 a ha with h3|h3
  ·exact .inl (by rw [h1];exact List.mem_append_right _ h3)
  ·exact .inr h3
 ·cases bs with
  | nil =>
    rw [List.nil_append] at h2
    rcases hy [] q B h2.symm a ha with h3|h3
    ·cases h3
    ·exact .inr h3
  | cons b bs =>
    rw [List.cons_append] at h2
    injection h2 with h2 h3
    subst h2
    exact hx A q bs h1 a ha
theorem Jc (o:List Ent) : ∀ L:List qJ,QQ o (L.flatMap je)
 | []=>fun A q B h=>by simp at h
 | p :: L=>by rw [List.flatMap_cons];exact Zi (VC o p) (Jc o L)
theorem Y2 {m t:List Ent} : ∀ {qs:List qJ} {s s' : MS},MInv s.out → QQ s.out qs → (∀ q,q ∈ qs → qE q = 0) → (∀ x,x ∈ s.out → ∀ a,a ∈ je x.path → xq s.out a ∨ a ∈ qs) → vI m t qs s = some s' →
  MInv s'.out ∧ ∀ x,x ∈ s'.out → ∀ a,a ∈ je x.path → xq s'.out a
 | [],s,s',hi,_,_,ha,h=>by
   injection h with h
   subst h
   exact ⟨hi,fun x hx a h1=>(ha x hx a h1).resolve_right (by simp)⟩
 | q :: qs,s,s',hi,hc,hq,ha,h=>by
   unfold vI at h
   cases h1:Qs m t s q with
   | none=>rw [h1] at h;cases h
   | some s1 =>
     rw [h1] at h
     obtain ⟨g1,g2,g3,g4⟩:=qac hi (hq q (by simp)) (fun a h2=>(hc [] q qs rfl a h2).resolve_left (by simp)) h1
     refine Y2 g1 (fun A r B e a h2=>?_) (fun r hr=>hq r (by simp [hr])) (fun x hx a h2=>?_) h
     ·rcases hc (q :: A) r B (by rw [e];rfl) a h2 with h3|h3
      ·rcases List.mem_cons.1 h3 with rfl|h3
       ·exact .inr g2
       ·exact .inl h3
      ·exact .inr (g3 a h3)
     ·rcases g4 x hx with h3|h3
      ·rcases ha x h3 a h2 with h4|h4
       ·exact .inl (g3 a h4)
       ·rcases List.mem_cons.1 h4 with rfl|h4
        ·exact .inl g2
        ·exact .inr h4
      ·exact .inl (h3 a h2)
theorem k9 (b m t:List Ent) : ∀ {P:List qJ} {o:List Ent},qY jn o = true →
  qY jn (P.foldl (fun o p=>zo o p (yW b m t p).1) o) = true ∧
  ∀ p,q5 (P.foldl (fun o p=>zo o p (yW b m t p).1) o) p = if p ∈ P ∧ ¬ (yW b m t p).1.kind = 0 then some (kA p (yW b m t p).1) else q5 o p
 | [],o,hs=>⟨hs,fun p=>by simp⟩
 | q :: P,o,hs=>by
   have hs1:qY jn (zo o q (yW b m t q).1) = true:=by
    unfold zo
    split
    ·exact hs
    ·exact j6 hs
   obtain ⟨h1,h2⟩:=k9 b m t (P:=P) hs1
   refine ⟨h1,fun p=>?_⟩
   rw [List.foldl_cons,h2]
   by_cases hk:(yW b m t p).1.kind = 0
   ·rw [if_neg (fun h=>h.2 hk),if_neg (fun h=>h.2 hk)]
    unfold zo
    split
    ·rfl
    ·rename_i hq
     rw [Qy hs,if_neg]
     rintro e
     simp only [kA] at e
     subst e
     exact hq hk
   ·by_cases hp:p ∈ P
    ·rw [if_pos ⟨hp,hk⟩,if_pos ⟨by simp [hp],hk⟩]
    ·rw [if_neg (fun h=>hp h.1)]
     by_cases e:p = q
     ·subst e
      rw [if_pos ⟨by simp,hk⟩]
      unfold zo
      rw [if_neg hk,Qy hs];exact if_pos rfl
     ·rw [if_neg (fun h=>by rcases List.mem_cons.1 h.1 with h1|h1;exact e h1;exact hp h1)]
      unfold zo
      split
      ·rfl
      ·rw [Qy hs,if_neg]
       exact e
theorem Xz {u:List Ent} (hu:MInv u) (p:qJ):(stT u p).text.length ≤ 300:=by
 rcases vN u p with ⟨_,h⟩|⟨_,h⟩|h
 ·rw [h];simp
 ·rw [h];simp
 ·exact Kc hu (XE h)
theorem Ki {b x y:Thg} (hx:x.text.length ≤ 300) (hy:y.text.length ≤ 300):(wo b x y).1.text.length ≤ 300 ∧ (wo b x y).2.text.length ≤ 300:=by
 have hn:noT.text.length ≤ 300:=by decide
 unfold wo
 (repeat' split)<;>exact ⟨by assumption,by assumption⟩
theorem kZ {t:List Ent} (h:Right t):MInv t:=⟨h.rise,h.ent⟩
theorem ku {b m t:List Ent} (hb:Right b) (hm:Right m) (ht:Right t) {p:qJ} (h:p ∈ xX b m t):qE p = 0:=by
 have g : ∀ u:List Ent,Right u → ¬ q5 u p = none → qE p = 0:=fun u hu h1=>by
  cases h2:q5 u p with
  | none=>exact absurd h2 h1
  | some x =>
    obtain ⟨h3,h4⟩:=vK h2
    have:=(yR (hu.ent x h3)).1
    rw [h4] at this;exact this
 rcases qav.1 h with h1|h1|h1
 ·exact g b hb h1
 ·exact g m hm h1
 ·exact g t ht h1
theorem Jv {b m t:List Ent} (hb:Right b) (hm:Right m) (ht:Right t):MInv (yC b m t (xX b m t)):=by
 obtain ⟨h1,h2⟩:=k9 b m t (P:=xX b m t) (o:=[]) rfl
 refine ⟨h1,fun x hx=>?_⟩
 have h3:=zk h1 hx
 rw [h2] at h3
 split at h3
 ·rename_i h4
  injection h3 with h3
  have hg:=(X9 (b:=stT b x.path) (vN m x.path) (vN t x.path)).1
  have hl:=(Ki (b:=stT b x.path) (Xz (kZ hm) x.path) (Xz (kZ ht) x.path)).1
  have hpe:=ku hb hm ht h4.1
  rw [← h3]
  refine Xw hpe (fun e=>?_) hl (by decide)
  have e:(yW b m t x.path).1.kind = 1:=by simpa using e
  rcases hg with ⟨k1,k2⟩|⟨k1,k2⟩|k1
  ·exact k2
  ·exact k2
  ·exact absurd (k1.symm.trans e) (by decide)
 ·cases h3
theorem kh {b m t:List Ent} (hb:Right b) (hm:Right m) (ht:Right t) : ∀ g,g ∈ jO b m t (xX b m t) → qE g.1 = 0 ∧ g.2.length ≤ 300:=by
 intro g hg
 obtain ⟨p,h1,h2⟩:=List.mem_filterMap.1 hg
 split at h2
 ·injection h2 with h2
  subst h2
  exact ⟨ku hb hm ht h1,(Ki (b:=stT b p) (Xz (kZ hm) p) (Xz (kZ ht) p)).2⟩
 ·cases h2
theorem Qm {b m t:List Ent} {s:MS} (hb:Right b) (hm:Right m) (ht:Right t) (h:xJ b m t = some s):MInv s.out ∧ ∀ x,x ∈ s.out → ∀ a,a ∈ je x.path → xq s.out a:=by
 unfold xJ at h
 cases h1:Jy m t (jO b m t (xX b m t)) ⟨yC b m t (xX b m t),[]⟩ with
 | none=>rw [h1] at h;cases h
 | some s1 =>
   rw [h1] at h
   have hi:=Qz (s:=⟨yC b m t (xX b m t),[]⟩) (Jv hb hm ht) (kh hb hm ht) h1
   refine Y2 hi (Jc _ _) (fun q hq=>?_) (fun x hx a ha=>?_) h
   ·obtain ⟨p,h2,h3⟩:=List.mem_flatMap.1 hq
    obtain ⟨x,h4,rfl⟩:=List.mem_map.1 h2
    exact ka (yR (hi.ent x h4)).1 h3
   ·exact .inr (List.mem_flatMap.2 ⟨x.path,List.mem_map.2 ⟨x,hx,rfl⟩,ha⟩)
theorem VV {f:Ent → Ent} (hf : ∀ x,(f x).path = x.path) (t:List Ent) (p:qJ):q5 (t.map f) p = (q5 t p).map f:=by
 unfold q5
 rw [List.find?_map]
 congr 2
 funext x
 simp [atP,hf]
theorem V7 {f:Ent → Ent} (hf : ∀ x,(f x).path = x.path) {t:List Ent} (h:qY jn t = true):qY jn (t.map f) = true:=by
 rw [yP] at *
 rw [List.pairwise_map]
 exact h.imp fun {a b} hab=>by rw [hf,hf];exact hab
theorem qbI {m t:List Ent} (hm:Right m) (ht:Right t) (e:Ent):zW (vV m t e) = true:=by
 have g : ∀ u:List Ent,Right u → ∀ v,vu u e = some v → zW v = true:=fun u hu v h=>by
  unfold vu at h
  split at h
  ·cases h
  ·rename_i x hx
   split at h
   ·injection h with h
    rw [← h]
    exact (yR (hu.ent x (vK hx).1)).2.2.2
   ·cases h
 unfold vV
 cases h1:vu t e with
 | some v=>exact g t ht v h1
 | none =>
   cases h2:vu m e with
   | some v=>exact g m hm v h2
   | none=>rfl
theorem XC {b m t:List Ent} (hb:Right b) (hm:Right m) (ht:Right t) (h:(x0 b m t).2.2 = 0):Right (x0 b m t).1:=by
 unfold x0 at *
 cases h1:xJ b m t with
 | none=>rw [h1] at h;exact absurd (show (2:Int) = 0 from h) (by decide)
 | some s =>
   rw [h1] at h
   simp only at h ⊢
   split at h
   ·exact absurd (show (2:Int) = 0 from h) (by decide)
   ·rename_i h60
    rw [if_neg h60]
    show Right (s.out.map (vi m t))
    obtain ⟨hi,ha⟩:=Qm hb hm ht h1
    refine YK (V7 (f:=vi m t) (fun _=>rfl) hi.rise) (by rw [List.length_map];omega) fun p x hx=>?_
    rw [VV (f:=vi m t) (fun _=>rfl)] at hx
    obtain ⟨y,hy,rfl⟩:=Option.map_eq_some_iff.1 hx
    obtain ⟨hy1,hy2⟩:=vK hy
    have he:=hi.ent y hy1
    obtain ⟨e1,e2,e3,e4⟩:=yR he
    refine ⟨Xw (p:=y.path) e1 (YW he) e3 (qbI hm ht y),?_⟩
    rw [← hy2]
    by_cases hp:qO y.path = []
    ·exact .inl hp
    ·right
     have hf:=ha y hy1 (qO y.path) (J1.2 ⟨qby e1 hp,qbW e1⟩)
     obtain ⟨z,hz1,hz2⟩:=W4.1 hf
     exact ⟨vi m t z,by rw [VV (f:=vi m t) (fun _=>rfl),hz1];rfl,hz2⟩
def qb9 (e:Ent):Ent := { e with ver:=1 }
theorem WN {x:Ent} (h:yi x = 0):kA x.path (yL x) = qb9 x:=by
 obtain ⟨p,f,s,v⟩:=x
 cases f with
 | true =>
   have:=YW h rfl
   simp at this
   subst this
   rfl
 | false=>rfl
def QO (e:Ent):qJ × Bool × qJ:=(e.path,e.fold,e.text)
theorem Jf {m t:List Ent} {s s' : MS} {p x:qJ} (h:xZ m t s p x = some s'):s'.cps.length = s.cps.length + 1:=by
 unfold xZ at h
 split at h
 ·cases h
 ·injection h with h
  rw [← h];simp
theorem VP {m t:List Ent} : ∀ {l:List (qJ × qJ)} {s s' : MS},Jy m t l s = some s' → s'.cps.length = s.cps.length + l.length
 | [],s,s',h=>by injection h with h;rw [h];rfl
 | g :: l,s,s',h=>by
   unfold Jy at h
   cases h1:xZ m t s g.1 g.2 with
   | none=>rw [h1] at h;cases h
   | some s1 =>
     rw [h1] at h
     have:=VP h
     have:=Jf h1
     simp only [List.length_cons]
     omega
end Go.Proofs.YtnhpclmbhbblbaaGreatDoor
set_option linter.unusedSimpArgs false
set_option linter.unnecessarySimpa false
set_option linter.unusedVariables false
set_option maxHeartbeats 1000000
namespace Go.Proofs.YtnhpclmbhbblbaaGreatDoor
open Go.Ab Go.RowKit
set_option maxRecDepth 10000
attribute [local irreducible] Awp j4 jw js Red qU Go.Ab.Fin q6 Rz x6 jp jo ResOk jJ ju yb jx
theorem xU (o:List Ent) (r s:List AV) {y z:Ent} (hr:r = y.row:=by rfl) (hs:s = z.row:=by rfl):(((o.map Ent.row).take o.length ++ [r]).take (o.length + 1)) ++ [s] = (o ++ ([y] ++ [z])).map Ent.row:=by
 subst hr;subst hs
 have e1:(o.map Ent.row).take o.length = o.map Ent.row:=List.take_of_length_le (by simp)
 rw [e1,List.take_of_length_le (by simp)]
 simp
theorem qa4:qaq C.P 59 = some [1,2,1,0]:=by kernel_rfl
theorem Ks (a b:Ent):kF [1,2,1,0] a.row b.row = some (decide (a = b)):=by
 obtain ⟨a1,a2,a3,a4⟩:=a
 obtain ⟨b1,b2,b3,b4⟩:=b
 simp only [Ent.row,kF,kB,str,Ent.mk.injEq,if_true,Option.some.injEq]
 by_cases h1:a1 = b1<;>by_cases h2:a2 = b2<;>by_cases h3:a3 = b3<;>by_cases h4:a4 = b4<;>simp [h1,h2,h3,h4]
theorem We {α:Type} {a b:List α} {i:Nat} (h1:i < a.length) (h2:i < b.length) (h:a.take i = b.take i) (h3:a[i] = b[i]):a.take (i + 1) = b.take (i + 1):=by
 rw [List.take_succ_eq_append_getElem h1,List.take_succ_eq_append_getElem h2,h,h3]
theorem wv (a b:List Ent) (ha:a.length ≤ 1000000000) (hb:b.length ≤ 1000000000):vg C.P 39 [qe a,qe b] (.v (.bool (decide (a = b)))):=by
 have hma:(a.map Ent.row).length = a.length:=List.length_map ..
 have hmb:(b.map Ent.row).length = b.length:=List.length_map ..
 refine qh Tryz.func39 rfl _ Tryz.ntmps39 (Nat.le_of_ble_eq_true rfl) _ Tryz.results39 0 rfl rfl ?_
 repeat' (first|refine qA ?_|fail|((first|refine jg ?_ ?_);all_goals (intro hc;have hp:=hc;try simp at hp;try (exfalso;omega)))|refine jh ?_ ?_)
 ·apply yE
  rfl
  have hne:¬ a = b:=fun e=>by subst e;simp at *
  simp [hne]
 have hab:a.length = b.length:=by simp at *;omega
 (refine Awp.red (qX (ts:=[(0,qe a),(1,qe b),(5,.v (.int .i64 ((0:Nat):Int)))]) ?_) ?_;((repeat (first|exact qi|refine qz ?_|refine ji ?_ ?_))))
 refine jf (fun n σ => ∃ i:Nat,i ≤ a.length ∧ n = a.length - i ∧ (a.take i = b.take i) ∧ σ = ⟨[(0,qe a),(1,qe b),(5,.v (.int .i64 (i:Int)))],[],C.nh⟩) a.length ⟨0,Nat.zero_le _,rfl,rfl,rfl⟩ ?_
 rintro n σ ⟨i,hi,rfl,hsofar,rfl⟩
 by_cases hlt:i < a.length
 ·have hlt2:i < b.length:=by omega
  have hr:=j3 (f:=Ent.row) hlt
  have hr':=j3 (f:=Ent.row) hlt2
  have hnx:=We hlt hlt2 hsofar
  repeat' (first|refine qA ?_|(first|(apply qd;apply yQ;rfl;rfl;exact qa4;exact Ks _ _;(first|exact .inl ⟨rfl,rfl⟩|exact .inr ⟨rfl,rfl⟩);exact nle rfl))|((first|refine jg ?_ ?_);all_goals (intro hc;have hp:=hc;try simp at hp;try (exfalso;omega)))|refine jh ?_ ?_)
  all_goals try (exfalso;omega)
  ·apply yE
   rfl
   have hne:¬ a = b:=fun e=>by subst e;simp at *
   simp [hne]
  ·refine ⟨a.length - (i + 1),_,by omega,qX (ts:=[(0,qe a),(1,qe b),(5,.v (.int .i64 ((i + 1:Nat):Int)))]) ?_,i + 1,by omega,rfl,(hnx (by simp_all)),rfl⟩;((repeat (first|exact qi|refine qz ?_|refine ji ?_ ?_)))
 obtain rfl:i = a.length:=by omega
 have he:a = b:=by rw [List.take_length] at hsofar;rw [hsofar,hab,List.take_length]
 repeat' (first|refine qA ?_|fail|((first|refine jg ?_ ?_);all_goals (intro hc;have hp:=hc;try simp at hp;try (exfalso;omega)))|refine jh ?_ ?_)
 all_goals try (exfalso;omega)
 apply yE
 rfl
 simp [he]
def Qc (t:List Ent) (e w:Int) (want:List Ent):Bool:=decide (e = w) && decide (t = (if w = 0 then want else []))
theorem Vl (t:List Ent) (e w:Int) (want:List Ent) (ht:t.length ≤ 1000000000) (hw:want.length ≤ 1000000000):vg C.P 12 [qe t,.v (.int .i64 e),.v (.int .i64 w),qe want] (.v (.bool (Qc t e w want))):=by
 have hE:Qc t e w want = (decide (e = w) && decide (t = (if w = 0 then want else []))):=rfl
 have h1:=wv t want ht hw
 have h2:=wv t [] ht (by simp)
 generalize Qc t e w want = E at *
 by_cases hz:w = 0
 ·rw [if_pos hz] at hE
  generalize decide (t = want) = D at *
  refine qh Tryz.func12 rfl _ Tryz.ntmps12 (Nat.le_of_ble_eq_true rfl) _ Tryz.results12 0 rfl rfl ?_
  repeat' (first|refine qA ?_|(first|refine jM Tryz.func39 (h1 ..) ?_)|((first|refine qk ?_ ?_|refine ql ?_ ?_|refine jg ?_ ?_);all_goals (intro hc;have hp:=hc;try simp at hp;try (exfalso;omega)))|refine jh ?_ ?_)
  all_goals try (exfalso;omega)
  all_goals (apply yE;rfl;simp_all)
 ·rw [if_neg hz] at hE
  generalize decide (t = []) = D at *
  refine qh Tryz.func12 rfl _ Tryz.ntmps12 (Nat.le_of_ble_eq_true rfl) _ Tryz.results12 0 rfl rfl ?_
  repeat' (first|refine qA ?_|(first|refine jM Tryz.func39 (h2 ..) ?_)|((first|refine qk ?_ ?_|refine ql ?_ ?_|refine jg ?_ ?_);all_goals (intro hc;have hp:=hc;try simp at hp;try (exfalso;omega)))|refine jh ?_ ?_)
  all_goals try (exfalso;omega)
  all_goals (apply yE;rfl;simp_all)
end Go.Proofs.YtnhpclmbhbblbaaGreatDoor
