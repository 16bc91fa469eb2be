import Derived.Test.YtnhpclmbhbblbaaGreatDoorMz12
import Derived.Test.YtnhpclmbhbblbaaGreatDoorMz10
set_option linter.unusedSimpArgs false
set_option linter.unnecessarySimpa false
set_option linter.unusedVariables false
set_option maxHeartbeats 1000000
namespace Go.Proofs.YtnhpclmbhbblbaaGreatDoor
open Go.Ab Go.RowKit
set_option maxRecDepth 10000
attribute [local irreducible] Awp j4 jw js Red qU Go.Ab.Fin q6 Rz x6 jp jo ResOk jJ ju yb jx
end Go.Proofs.YtnhpclmbhbblbaaGreatDoor
set_option linter.unusedSimpArgs false
set_option linter.unnecessarySimpa false
namespace Go.Proofs.YtnhpclmbhbblbaaGreatDoor
theorem kq {s:qJ}:jF s = true ↔ s ≠ [] ∧ s.length ≤ 20 ∧ s ≠ [46] ∧ s ≠ [46,46] ∧ s.head? ≠ some 32 ∧ s.getLast? ≠ some 32 ∧ ∀ c,c ∈ s → YC c = true:=by
 simp [jF,and_assoc]
theorem Ji {s:qJ} (h:jF s = true):(47:UInt8) ∉ s:=fun hm=>by
 have:=(kq.1 h).2.2.2.2.2.2 47 hm
 exact absurd this (by decide)
theorem JL:jF [] = false:=by simp [jF]
theorem yo {p:qJ}:qE p = 0 ↔ (∀ n,n ∈ qn p → jF n = true) ∧ jT p = false:=by
 unfold qE
 constructor
 ·intro h
  split at h
  ·rename_i h1
   split at h
   ·exact absurd h (by decide)
   ·rename_i h2
    exact ⟨List.all_eq_true.1 h1,by simpa using h2⟩
  ·exact absurd h (by decide)
 ·rintro ⟨h1,h2⟩
  rw [if_pos (List.all_eq_true.2 h1),h2];rfl
theorem Jm {p:qJ} (h:(47:UInt8) ∉ p):qO p = [] ∧ qK p = p:=by
 rw [qO,qK,xN h]
 exact ⟨rfl,rfl⟩
theorem Y3 {a b:qJ} (h:(47:UInt8) ∉ b):qO (a ++ 47 :: b) = a ∧ qK (a ++ 47 :: b) = b:=by
 rw [qO,qK,zj h]
 refine ⟨by rw [show (a.length:Int).toNat = a.length from by omega,List.take_left],?_⟩
 rw [show ((a.length:Int) + 1).toNat = a.length + 1 from by omega,List.drop_append,List.drop_of_length_le (by omega),List.nil_append,show a.length + 1 - a.length = 1 from by omega];rfl
theorem Vr {a b:qJ} (h:(47:UInt8) ∉ b):qO (vn a b) = a ∧ qn (vn a b) = (if a = [] then [b] else qn a ++ [b]):=by
 unfold vn
 split
 ·rename_i e;subst e
  exact ⟨(Jm h).1,j5 h⟩
 ·refine ⟨(Y3 h).1,?_⟩
  rw [xL,j5 h]
theorem ww {a b:qJ} (h:jT b = false) (h1:(qn a).length ≤ (qn b).length) (h2:a.length ≤ b.length):jT a = false:=by
 simp [jT] at h ⊢;omega
theorem Za {p:qJ} (h:qE p = 0):(qO p = [] ∨ qE (qO p) = 0) ∧ jF (qK p) = true ∧ vn (qO p) (qK p) = p:=by
 obtain ⟨h1,h2⟩:=yo.1 h
 rcases kC (c:=47) p with h3|⟨a,b,rfl,hb⟩
 ·obtain ⟨e1,e2⟩:=Jm h3
  rw [e1,e2]
  exact ⟨.inl rfl,h1 p (by rw [j5 h3];simp),rfl⟩
 ·obtain ⟨e1,e2⟩:=Y3 (a:=a) hb
  rw [e1,e2]
  have hn:qn (a ++ 47 :: b) = qn a ++ [b]:=by rw [xL,j5 hb]
  have ha:a ≠ []:=fun e=>by
   have:=h1 [] (by rw [hn,e];simp [qn])
   rw [JL] at this;exact absurd this (by decide)
  refine ⟨.inr (yo.2 ⟨fun n hm=>h1 n (by rw [hn];simp [hm]),ww h2 (by rw [hn];simp) (by simp)⟩),h1 b (by rw [hn];simp),?_⟩
  simp [vn,ha]
theorem yO {p:qJ} {l:List qJ}:yz (p :: l) = 0 ↔ qE p = 0 ∧ yz l = 0:=by
 show (if qE p = 0 then yz l else qE p) = 0 ↔ _
 split
 ·rename_i h;simp [h]
 ·rename_i h;simp [h]
theorem ZH {p f t:qJ} (h:zV p f t = 0) :
  zV (t ++ p.drop f.length) t f = 0 ∧ yz [t ++ p.drop f.length,t] = 0 ∧ X5 (t ++ p.drop f.length) t = true ∧ f ++ (t ++ p.drop f.length).drop t.length = p:=by
 unfold zV at h
 split at h
 case isFalse h'=>exact absurd h h'
 rename_i h0
 split at h
 case isFalse=>exact absurd h (by decide)
 rename_i hi
 split at h
 case isTrue=>exact absurd h (by decide)
 rename_i hg
 obtain ⟨hp,h1⟩:=yO.1 h0
 obtain ⟨hf,h2⟩:=yO.1 h1
 obtain ⟨ht, -⟩:=yO.1 h2
 obtain ⟨np,gp⟩:=yo.1 hp
 obtain ⟨nt, -⟩:=yo.1 ht
 have hr:=Kz (t:=t) hi
 have hall : ∀ n,n ∈ qn t ++ (qn p).drop (qn f).length → jF n = true:=fun n hm=>by
  rcases List.mem_append.1 hm with hm|hm
  ·exact nt n hm
  ·exact np n (List.mem_of_mem_drop hm)
 have hnm:qn (t ++ p.drop f.length) = qn t ++ (qn p).drop (qn f).length:=by
  rw [← hr]
  exact kf (by simp [yI]) fun n hm=>Ji (hall n hm)
 have hm:qE (t ++ p.drop f.length) = 0:=yo.2 ⟨by rw [hnm];exact hall,by simpa using hg⟩
 have hb:X5 (t ++ p.drop f.length) t = true:=by
  rw [ZV,hnm,List.isPrefixOf_iff_prefix];exact List.prefix_append ..
 have hpre:f ++ p.drop f.length = p:=by
  simp only [X5,Bool.or_eq_true,decide_eq_true_eq,List.isPrefixOf_iff_prefix] at hi
  rcases hi with rfl|⟨s,rfl⟩
  ·simp
  ·rw [List.append_assoc,List.drop_left]
 have hback:f ++ (t ++ p.drop f.length).drop t.length = p:=by rw [List.drop_left];exact hpre
 refine ⟨?_,?_,hb,hback⟩
 ·unfold zV
  rw [if_pos (yO.2 ⟨hm,yO.2 ⟨ht,yO.2 ⟨hf,rfl⟩⟩⟩),if_pos hb,hback,gp];rfl
 ·exact yO.2 ⟨hm,yO.2 ⟨ht,rfl⟩⟩
theorem VB (s:qJ):y3 s ++ x2 s = s:=by
 unfold y3 x2
 split<;>simp
theorem KL (s:qJ):x3 s <+: s:=by
 have h:=List.dropWhile_suffix (l:=s.reverse) (· == 32)
 rw [← List.reverse_prefix] at h
 rw [List.reverse_reverse] at h
 exact h
theorem qbi (s:qJ) (n:Int):xD s n <+: s:=by
 have h:y3 s <+: s:=⟨x2 s,VB s⟩
 unfold xD
 split
 ·exact (KL _).trans ((List.take_prefix _ _).trans h)
 ·exact h
theorem Zb : ∀ k,k < 10 → YC (UInt8.ofNat (48 + k)) = true:=by decide
theorem qbn {n:Int} (h0:1 ≤ n) (h:n ≤ 99) : ∀ c,c ∈ vJ n → YC c = true:=by
 intro c hc
 unfold vJ at hc
 split at hc
 ·rw [List.mem_singleton] at hc;subst hc
  exact Zb _ (by omega)
 ·simp only [List.mem_cons,List.not_mem_nil,or_false] at hc
  rcases hc with rfl|rfl
  ·exact Zb _ (by omega)
  ·exact Zb _ (by omega)
theorem W0 {s:qJ} {n:Int} (h:xD s n ≠ []):((xD s n).length:Int) ≤ vm s n:=by
 unfold xD at h ⊢
 split
 ·rename_i hr
  rw [if_pos hr] at h
  have h1:=QN ((y3 s).take (vm s n).toNat)
  rw [List.length_take] at h1
  have h2:0 < (x3 ((y3 s).take (vm s n).toNat)).length:=List.length_pos_iff.2 h
  omega
 ·rename_i hr;omega
theorem Ze {s:qJ} {n:Int} (hs:jF s = true) (h0:1 ≤ n) (h1:n ≤ 99) (hc:xD s n ≠ []):jF (xD s n ++ xj n ++ x2 s) = true:=by
 obtain ⟨-, -, -, -,a5,a6,a7⟩:=kq.1 hs
 have hr:=W0 hc
 have hm:0 < (vJ n).length:=by unfold vJ;split<;>simp
 have hml:(xj n).length = (vJ n).length + 3:=by simp [xj]
 have hpos:0 < (xD s n).length:=List.length_pos_iff.2 hc
 have hlen:(xD s n ++ xj n ++ x2 s).length = (xD s n).length + (xj n).length + (x2 s).length:=by simp;omega
 unfold vm at hr
 obtain ⟨t,ht⟩:=qbi s n
 have hse:=VB s
 refine kq.2 ⟨fun e=>?_,by omega,fun e=>?_,fun e=>?_,?_,?_,?_⟩
 ·rw [e] at hlen;simp at hlen;omega
 ·rw [e] at hlen;simp at hlen;omega
 ·rw [e] at hlen;simp at hlen;omega
 ·cases h:xD s n with
  | nil=>exact absurd h hc
  | cons c l =>
    rw [h] at ht
    rw [← ht] at a5
    simpa using a5
 ·rw [List.getLast?_append]
  cases h:x2 s with
  | nil=>rw [show xD s n ++ xj n = (xD s n ++ ([32,40] ++ vJ n)) ++ [41] from by simp [xj],List.getLast?_nil,Option.none_or,List.getLast?_append,List.getLast?_singleton,Option.some_or];decide
  | cons c l =>
    rw [← hse,h,List.getLast?_append] at a6
    have hx : ∃ y,(c :: l).getLast? = some y:=⟨_,List.getLast?_eq_some_getLast (by simp)⟩
    obtain ⟨y,hy⟩:=hx
    rw [hy] at a6 ⊢
    simpa using a6
 ·intro c hcm
  rcases List.mem_append.1 hcm with hcm|hcm
  ·rcases List.mem_append.1 hcm with hcm|hcm
   ·exact a7 c (by rw [← ht];simp [hcm])
   ·unfold xj at hcm
    rcases List.mem_append.1 hcm with hcm|hcm
    ·rcases List.mem_append.1 hcm with hcm|hcm
     ·simp at hcm;rcases hcm with rfl|rfl<;>decide
     ·exact qbn h0 h1 c hcm
    ·simp at hcm;subst hcm;decide
  ·exact a7 c (by rw [← hse];simp [hcm])
theorem Vf {p:qJ} {n:Int} (h:xd p n = 0):qE p = 0 ∧ 1 ≤ n ∧ n ≤ 99 ∧ xD (qK p) n ≠ [] ∧ jT (jK p n) = false:=by
 unfold xd at h
 split at h
 case isFalse h'=>exact absurd h h'
 rename_i hp
 split at h
 case isTrue=>exact absurd h (by decide)
 rename_i hn
 unfold xw at h
 split at h
 case isTrue=>exact absurd h (by decide)
 rename_i hc
 split at h
 case isTrue=>exact absurd h (by decide)
 rename_i hg
 exact ⟨hp,by omega,by omega,hc,by simpa using hg⟩
theorem Zp {p:qJ} {n:Int} (h:xd p n = 0):qE (jK p n) = 0 ∧ qO (jK p n) = qO p:=by
 obtain ⟨hp,h0,h1,hc,hg⟩:=Vf h
 obtain ⟨hpa,hnm, -⟩:=Za hp
 have hx:=Ze hnm h0 h1 hc
 obtain ⟨e1,e2⟩:=Vr (a:=qO p) (Ji hx)
 refine ⟨yo.2 ⟨fun n hm=>?_,hg⟩,e1⟩
 unfold jK at hm
 rw [e2] at hm
 split at hm
 ·rw [List.mem_singleton] at hm;subst hm;exact hx
 ·rename_i hne
  rcases hpa with hpa|hpa
  ·exact absurd hpa hne
  ·rcases List.mem_append.1 hm with hm|hm
   ·exact (yo.1 hpa).1 n hm
   ·rw [List.mem_singleton] at hm;subst hm;exact hx
end Go.Proofs.YtnhpclmbhbblbaaGreatDoor
set_option linter.unusedSimpArgs false
set_option linter.unnecessarySimpa false
set_option linter.unusedVariables false
set_option maxHeartbeats 1000000
namespace Go.Proofs.YtnhpclmbhbblbaaGreatDoor
open Go.Ab Go.RowKit
set_option maxRecDepth 10000
attribute [local irreducible] Awp j4 jw js Red qU Go.Ab.Fin q6 Rz x6 jp jo ResOk jJ ju yb jx
structure RightE (t:List Ent):Prop where
 rise:qY jn t = true
 paths : ∀ x,x ∈ t → qE x.path = 0
 few:t.length ≤ 400000
def qce (t:List Ent) (c:Chg) (v:Int):Int:=if ¬ Yx c = 0 then Yx c else if ¬ Wo t c = 0 then Wo t c else qaf t c v
theorem VA {c:Chg} (h:Yx c = 0):1 ≤ c.kind ∧ c.kind ≤ 4 ∧ qE c.path = 0 ∧ (c.kind = 3 → qE c.to = 0) ∧ ZT c = 0:=by
 unfold Yx at h
 split at h
 ·exact absurd h (by decide)
 ·split at h
  ·contradiction
  ·rename_i h1 h2
   split at h
   ·rename_i h3;exact absurd h h3.2
   ·rename_i h3
    refine ⟨by omega,by omega,by simpa using h2,fun h4=>?_,h⟩
    have h5:=fun e=>h3 ⟨h4,e⟩
    simpa using h5
theorem Yq {t:List Ent} {x y:Ent} (h:y ∈ jX t x):y = x ∨ y ∈ t:=by
 unfold jX at h
 split at h
 ·rcases List.mem_append.1 h with h|h
  ·exact .inr (List.mem_of_mem_take h)
  ·rcases List.mem_append.1 h with h|h
   ·exact .inl (List.mem_singleton.1 h)
   ·exact .inr (List.mem_of_mem_drop h)
 ·rcases List.mem_append.1 h with h|h
  ·exact .inr (List.mem_of_mem_take h)
  ·rcases List.mem_append.1 h with h|h
   ·exact .inl (List.mem_singleton.1 h)
   ·exact .inr (List.mem_of_mem_drop h)
theorem Ya : ∀ {l t:List Ent} {y:Ent},y ∈ l.foldl jX t → y ∈ l ∨ y ∈ t
 | [],_,_,h => .inr h
 | x :: l,t,y,h=>by
   rcases Ya (l:=l) (t:=jX t x) h with h|h
   ·exact .inl (List.mem_cons_of_mem _ h)
   ·rcases Yq h with rfl|h
    ·exact .inl (List.mem_cons_self ..)
    ·exact .inr h
theorem X2 {c:Chg} {v:Int} {x:Ent} (hx:qE x.path = 0) (h1:qE c.path = 0) (h2:qE c.to = 0) (hi:X5 x.path c.path = true) (hg:jT (c.to ++ x.path.drop c.path.length) = false):qE (WP c v x).path = 0:=by
 have hm:=X7 hx h1 h2 hi
 rw [hg,if_neg (by decide)] at hm
 have:=(ZH hm).2.1
 exact (yO.1 this).1
theorem qa3 {t:List Ent} {c:Chg} {v:Int} (h:qaf t c v = 0):JB t c = false ∧ (Yo t c v).length ≤ 60:=by
 unfold qaf at h
 split at h
 ·exact absurd h (by decide)
 ·split at h
  ·exact absurd h (by decide)
  ·rename_i h1 h2
   exact ⟨by simpa using h1,by omega⟩
theorem VT {t:List Ent} {c:Chg} {v:Int} (ht : ∀ x,x ∈ t → qE x.path = 0) (hce:Yx c = 0) (hbad:JB t c = false) : ∀ x,x ∈ Yo t c v → qE x.path = 0:=by
 obtain ⟨k1,k2,hpe,hto, -⟩:=VA hce
 intro x hx
 unfold Yo at hx
 split at hx
 ·rcases Yq hx with rfl|h
  ·exact hpe
  ·exact ht x h
 ·split at hx
  ·rcases Yq hx with rfl|h
   ·exact hpe
   ·exact ht x h
  ·split at hx
   ·exact ht x (List.mem_filter.1 hx).1
   ·have k3:c.kind = 3:=by omega
    rcases Ya hx with h|h
    ·obtain ⟨y,hy,rfl⟩:=List.mem_map.1 h
     obtain ⟨hy1,hy2⟩:=List.mem_filter.1 hy
     simp only [JB,k3,decide_true,Bool.true_and,List.any_eq_false] at hbad
     exact X2 (ht y hy1) hpe (hto k3) hy2 (by simpa using hbad y hy)
    ·exact ht x (List.mem_filter.1 h).1
theorem Xn {t:List Ent} {c:Chg} {v:Int} (hs:qY jn t = true):qY jn (Yo t c v) = true:=by
 unfold Yo
 split
 ·exact j6 hs
 ·split
  ·exact j6 hs
  ·split
   ·exact Qj hs
   ·exact wA (Qj hs)
theorem RightE.done {t:List Ent} {c:Chg} {v:Int} (h:RightE t) (hr:qce t c v = 0):RightE (Yo t c v):=by
 unfold qce at hr
 split at hr
 ·contradiction
 ·split at hr
  ·contradiction
  ·rename_i h1 h2
   obtain ⟨h3,h4⟩:=qa3 hr
   exact ⟨Xn h.rise,VT h.paths (by simpa using h1) h3,by omega⟩
end Go.Proofs.YtnhpclmbhbblbaaGreatDoor
set_option linter.unusedSimpArgs false
set_option linter.unnecessarySimpa false
set_option linter.unusedVariables false
namespace Go.Proofs.YtnhpclmbhbblbaaGreatDoor
open Go.Op
def q5 (t:List Ent) (p:qJ):Option Ent:=t.find? (atP p)
theorem vK {t:List Ent} {p:qJ} {x:Ent} (h:q5 t p = some x):x ∈ t ∧ x.path = p:=by
 have h1:=List.mem_of_find?_eq_some h
 have h2:=List.find?_some h
 exact ⟨h1,by simpa [atP] using h2⟩
theorem wc {t:List Ent} {p:qJ}:q5 t p = none ↔ ∀ x,x ∈ t → ¬ x.path = p:=by
 unfold q5
 rw [List.find?_eq_none]
 simp [atP]
theorem qad {t:List Ent} (hs:qY jn t = true) {x y:Ent} (hx:x ∈ t) (hy:y ∈ t) (h:x.path = y.path):x = y:=by
 obtain ⟨i,hi,rfl⟩:=List.getElem_of_mem hx
 obtain ⟨j,hj,rfl⟩:=List.getElem_of_mem hy
 rcases Nat.lt_trichotomy i j with h1|h1|h1
 ·have:=vp hs i j hi hj h1
  rw [h,vG] at this;cases this
 ·subst h1;rfl
 ·have:=vp hs j i hj hi h1
  rw [h,vG] at this;cases this
theorem zk {t:List Ent} (hs:qY jn t = true) {x:Ent} (hx:x ∈ t):q5 t x.path = some x:=by
 cases h:q5 t x.path with
 | none=>exact absurd rfl (wc.1 h x hx)
 | some y =>
   obtain ⟨h1,h2⟩:=vK h
   rw [qad hs h1 hx h2]
theorem V0 {t:List Ent} (hs:qY jn t = true) {p:qJ} {x:Ent}:q5 t p = some x ↔ x ∈ t ∧ x.path = p :=
 ⟨vK,fun ⟨h1,h2⟩=>h2 ▸ zk hs h1⟩
theorem Yz {t:List Ent} {p:qJ}:yJ t p = (q5 t p).isSome:=by
 unfold yJ q5
 rw [Bool.eq_iff_iff,List.any_eq_true,List.find?_isSome]
theorem Jq {t:List Ent} {x:Ent} (hs:qY jn t = true) (y:Ent):y ∈ jX t x ↔ y = x ∨ (y ∈ t ∧ ¬ y.path = x.path):=by
 obtain ⟨A,M,Z,h,hp,hA,hZ,hM⟩:=Yi x.path (yP.1 hs)
 rw [z6 h hp hM,h]
 have hA' : ∀ a,a ∈ A → ¬ a.path = x.path:=fun a ha=>Qh (hA a ha)
 have hZ' : ∀ a,a ∈ Z → ¬ a.path = x.path:=fun a ha e=>Qh (hZ a ha) e.symm
 simp only [List.mem_append,List.mem_singleton]
 constructor
 ·rintro (h1|h1|h1)
  ·exact .inr ⟨.inl h1,hA' y h1⟩
  ·exact .inl h1
  ·exact .inr ⟨.inr (.inr h1),hZ' y h1⟩
 ·rintro (h1|⟨h1|h1|h1,h2⟩)
  ·exact .inr (.inl h1)
  ·exact .inl h1
  ·rcases hM with ⟨_,z,rfl,hz⟩|⟨_,rfl⟩
   ·rw [List.mem_singleton.1 h1] at h2;exact absurd hz h2
   ·cases h1
  ·exact .inr (.inr h1)
theorem Qy {t:List Ent} {x:Ent} (hs:qY jn t = true) (p:qJ):q5 (jX t x) p = if p = x.path then some x else q5 t p:=by
 have hr:=j6 (x:=x) hs
 split
 ·rename_i h
  rw [V0 hr,Jq hs]
  exact ⟨.inl rfl,h.symm⟩
 ·rename_i h
  cases hl:q5 t p with
  | none =>
    rw [wc] at hl ⊢
    intro y hy
    rcases (Jq hs y).1 hy with rfl|⟨h1,_⟩
    ·exact fun e=>h e.symm
    ·exact hl y h1
  | some y =>
    obtain ⟨h1,h2⟩:=vK hl
    rw [V0 hr,Jq hs]
    exact ⟨.inr ⟨h1,by rw [h2];exact h⟩,h2⟩
theorem qax {p q:qJ}:X5 p q = true ↔ ∃ r,p = q ++ r ∧ (r = [] ∨ r.head? = some 47):=by
 unfold X5
 rw [Bool.or_eq_true,decide_eq_true_eq,List.isPrefixOf_iff_prefix]
 constructor
 ·rintro (rfl|⟨s,h⟩)
  ·exact ⟨[],by simp,.inl rfl⟩
  ·exact ⟨47 :: s,by rw [← h];simp,.inr rfl⟩
 ·rintro ⟨r,rfl,rfl|h⟩
  ·exact .inl (by simp)
  ·cases r with
   | nil=>exact .inl (by simp)
   | cons c r =>
     simp at h
     subst h
     exact .inr ⟨r,by simp⟩
theorem wm {p q:qJ}:X5 p q = true ↔ qn q <+: qn p:=by rw [ZV,List.isPrefixOf_iff_prefix]
end Go.Proofs.YtnhpclmbhbblbaaGreatDoor
set_option linter.unusedSimpArgs false
set_option linter.unnecessarySimpa false
set_option linter.unusedVariables false
namespace Go.Ab
end Go.Ab
set_option maxHeartbeats 1000000
namespace Go.Proofs.YtnhpclmbhbblbaaGreatDoor
open Go.Ab Go.RowKit
set_option maxRecDepth 10000
attribute [local irreducible] Awp j4 jw js Red qU Go.Ab.Fin q6 Rz x6 jp jo ResOk jJ ju yb jx
theorem Xs {t:List Ent} (h:qI t = 0):t.length ≤ 60 ∧ (∀ x,x ∈ t → yi x = 0) ∧ qY jn t = true ∧ ∀ x,x ∈ t → jU t x = 0:=by
 unfold qI at h
 split at h
 ·exact absurd h (by decide)
 ·split at h
  ·split at h
   ·split at h
    ·exact absurd h (by decide)
    ·split at h
     ·exact absurd h (by decide)
     ·rename_i h1 h2 h3 h4 h5
      refine ⟨by omega,xA.1 h2,h3,fun x hx=>?_⟩
      have h6:(t.any fun x=>decide (¬ jU t x = 0)) = false:=by simpa using h5
      rw [List.any_eq_false] at h6
      simpa using h6 x hx
   ·exact absurd h (by decide)
  ·contradiction
theorem yR {x:Ent} (h:yi x = 0):qE x.path = 0 ∧ ¬ (x.fold = true ∧ ¬ x.text = []) ∧ x.text.length ≤ 300 ∧ zW x.ver = true:=by
 unfold yi at h
 split at h
 ·split at h
  ·exact absurd h (by decide)
  ·split at h
   ·exact absurd h (by decide)
   ·split at h
    ·exact ⟨by assumption,by assumption,by omega,by assumption⟩
    ·exact absurd h (by decide)
 ·contradiction
end Go.Proofs.YtnhpclmbhbblbaaGreatDoor
