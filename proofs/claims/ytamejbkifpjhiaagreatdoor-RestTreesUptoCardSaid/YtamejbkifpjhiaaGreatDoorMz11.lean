import Derived.Test.YtamejbkifpjhiaaGreatDoorMz8
import Derived.Test.YtamejbkifpjhiaaGreatDoorMz10
import Derived.Test.YtamejbkifpjhiaaGreatDoorMz9
set_option linter.unusedSimpArgs false
set_option linter.unnecessarySimpa false
namespace Go.Proofs.YtamejbkifpjhiaaGreatDoor
theorem Qs {s:qP}:yq s = true ↔ s ≠ [] ∧ s.length ≤ 20 ∧ s ≠ [46] ∧ s ≠ [46,46] ∧ s.head? ≠ some 32 ∧ s.getLast? ≠ some 32 ∧ ∀ c,c ∈ s → Zl c = true:=by
 simp [yq,and_assoc]
theorem XQ {s:qP} (h:yq s = true):(47:UInt8) ∉ s:=fun hm=>by
 have:=(Qs.1 h).2.2.2.2.2.2 47 hm
 exact absurd this (by decide)
theorem VO:yq [] = false:=by simp [yq]
theorem xD {p:qP}:qH p = 0 ↔ (∀ n,n ∈ qu p → yq n = true) ∧ j8 p = false:=by
 unfold qH
 constructor
 ·intro h
  split at h
  ·rename_i h1
   split at h
   ·exact absurd h (by decide)
   ·rename_i h2
    exact ⟨List.all_eq_true.1 h1,by simpa using h2⟩
  ·exact absurd h (by decide)
 ·rintro ⟨h1,h2⟩
  rw [if_pos (List.all_eq_true.2 h1),h2];rfl
theorem XV {p:qP} (h:(47:UInt8) ∉ p):qJ p = [] ∧ jb p = p:=by
 rw [qJ,jb,vX h]
 exact ⟨rfl,rfl⟩
theorem JG {a b:qP} (h:(47:UInt8) ∉ b):qJ (a ++ 47 :: b) = a ∧ jb (a ++ 47 :: b) = b:=by
 rw [qJ,jb,wm h]
 refine ⟨by rw [show (a.length:Int).toNat = a.length from by omega,List.take_left],?_⟩
 rw [show ((a.length:Int) + 1).toNat = a.length + 1 from by omega,List.drop_append,List.drop_of_length_le (by omega),List.nil_append,show a.length + 1 - a.length = 1 from by omega];rfl
theorem WU {a b:qP} (h:(47:UInt8) ∉ b):qJ (zK a b) = a ∧ qu (zK a b) = (if a = [] then [b] else qu a ++ [b]):=by
 unfold zK
 split
 ·rename_i e;subst e
  exact ⟨(XV h).1,y7 h⟩
 ·refine ⟨(JG h).1,?_⟩
  rw [vP,y7 h]
theorem JU {a b:qP} (h:j8 b = false) (h1:(qu a).length ≤ (qu b).length) (h2:a.length ≤ b.length):j8 a = false:=by
 simp [j8] at h ⊢;omega
theorem qaE {p:qP} (h:qH p = 0):(qJ p = [] ∨ qH (qJ p) = 0) ∧ yq (jb p) = true ∧ zK (qJ p) (jb p) = p:=by
 obtain ⟨h1,h2⟩:=xD.1 h
 rcases Qd (c:=47) p with h3|⟨a,b,rfl,hb⟩
 ·obtain ⟨e1,e2⟩:=XV h3
  rw [e1,e2]
  exact ⟨.inl rfl,h1 p (by rw [y7 h3];simp),rfl⟩
 ·obtain ⟨e1,e2⟩:=JG (a:=a) hb
  rw [e1,e2]
  have hn:qu (a ++ 47 :: b) = qu a ++ [b]:=by rw [vP,y7 hb]
  have ha:a ≠ []:=fun e=>by
   have:=h1 [] (by rw [hn,e];simp [qu])
   rw [VO] at this;exact absurd this (by decide)
  refine ⟨.inr (xD.2 ⟨fun n hm=>h1 n (by rw [hn];simp [hm]),JU h2 (by rw [hn];simp) (by simp)⟩),h1 b (by rw [hn];simp),?_⟩
  simp [zK,ha]
theorem xW {p:qP} {l:List qP}:xo (p :: l) = 0 ↔ qH p = 0 ∧ xo l = 0:=by
 show (if qH p = 0 then xo l else qH p) = 0 ↔ _
 split
 ·rename_i h;simp [h]
 ·rename_i h;simp [h]
theorem qaD {p f t:qP} (h:za p f t = 0) :
  za (t ++ p.drop f.length) t f = 0 ∧ xo [t ++ p.drop f.length,t] = 0 ∧ inB (t ++ p.drop f.length) t = true ∧ f ++ (t ++ p.drop f.length).drop t.length = p:=by
 unfold za at h
 split at h
 case isFalse h'=>exact absurd h h'
 rename_i h0
 split at h
 case isFalse=>exact absurd h (by decide)
 rename_i hi
 split at h
 case isTrue=>exact absurd h (by decide)
 rename_i hg
 obtain ⟨hp,h1⟩:=xW.1 h0
 obtain ⟨hf,h2⟩:=xW.1 h1
 obtain ⟨ht, -⟩:=xW.1 h2
 obtain ⟨np,gp⟩:=xD.1 hp
 obtain ⟨nt, -⟩:=xD.1 ht
 have hr:=ZP (t:=t) hi
 have hall : ∀ n,n ∈ qu t ++ (qu p).drop (qu f).length → yq n = true:=fun n hm=>by
  rcases List.mem_append.1 hm with hm|hm
  ·exact nt n hm
  ·exact np n (List.mem_of_mem_drop hm)
 have hnm:qu (t ++ p.drop f.length) = qu t ++ (qu p).drop (qu f).length:=by
  rw [← hr]
  exact QB (by simp [xB]) fun n hm=>XQ (hall n hm)
 have hm:qH (t ++ p.drop f.length) = 0:=xD.2 ⟨by rw [hnm];exact hall,by simpa using hg⟩
 have hb:inB (t ++ p.drop f.length) t = true:=by
  rw [Ve,hnm,List.isPrefixOf_iff_prefix];exact List.prefix_append ..
 have hpre:f ++ p.drop f.length = p:=by
  simp only [inB,Bool.or_eq_true,decide_eq_true_eq,List.isPrefixOf_iff_prefix] at hi
  rcases hi with rfl|⟨s,rfl⟩
  ·simp
  ·rw [List.append_assoc,List.drop_left]
 have hback:f ++ (t ++ p.drop f.length).drop t.length = p:=by rw [List.drop_left];exact hpre
 refine ⟨?_,?_,hb,hback⟩
 ·unfold za
  rw [if_pos (xW.2 ⟨hm,xW.2 ⟨ht,xW.2 ⟨hf,rfl⟩⟩⟩),if_pos hb,hback,gp];rfl
 ·exact xW.2 ⟨hm,xW.2 ⟨ht,rfl⟩⟩
theorem qal (s:qP):vc s ++ zk s = s:=by
 unfold vc zk
 split<;>simp
theorem qdc (s:qP):zm s <+: s:=by
 have h:=List.dropWhile_suffix (l:=s.reverse) (· == 32)
 rw [← List.reverse_prefix] at h
 rw [List.reverse_reverse] at h
 exact h
theorem qe2 (s:qP) (n:Int):vI s n <+: s:=by
 have h:vc s <+: s:=⟨zk s,qal s⟩
 unfold vI
 split
 ·exact (qdc _).trans ((List.take_prefix _ _).trans h)
 ·exact h
theorem qaJ : ∀ k,k < 10 → Zl (UInt8.ofNat (48 + k)) = true:=by decide
theorem qe3 {n:Int} (h0:1 ≤ n) (h:n ≤ 99) : ∀ c,c ∈ ko n → Zl c = true:=by
 intro c hc
 unfold ko at hc
 split at hc
 ·rw [List.mem_singleton] at hc;subst hc
  exact qaJ _ (by omega)
 ·simp only [List.mem_cons,List.not_mem_nil,or_false] at hc
  rcases hc with rfl|rfl
  ·exact qaJ _ (by omega)
  ·exact qaJ _ (by omega)
theorem qdL {s:qP} {n:Int} (h:vI s n ≠ []):((vI s n).length:Int) ≤ zM s n:=by
 unfold vI at h ⊢
 split
 ·rename_i hr
  rw [if_pos hr] at h
  have h1:=XB ((vc s).take (zM s n).toNat)
  rw [List.length_take] at h1
  have h2:0 < (zm ((vc s).take (zM s n).toNat)).length:=List.length_pos_iff.2 h
  omega
 ·rename_i hr;omega
theorem qaB {s:qP} {n:Int} (hs:yq s = true) (h0:1 ≤ n) (h1:n ≤ 99) (hc:vI s n ≠ []):yq (vI s n ++ vo n ++ zk s) = true:=by
 obtain ⟨-, -, -, -,a5,a6,a7⟩:=Qs.1 hs
 have hr:=qdL hc
 have hm:0 < (ko n).length:=by unfold ko;split<;>simp
 have hml:(vo n).length = (ko n).length + 3:=by simp [vo]
 have hpos:0 < (vI s n).length:=List.length_pos_iff.2 hc
 have hlen:(vI s n ++ vo n ++ zk s).length = (vI s n).length + (vo n).length + (zk s).length:=by simp;omega
 unfold zM at hr
 obtain ⟨t,ht⟩:=qe2 s n
 have hse:=qal s
 refine Qs.2 ⟨fun e=>?_,by omega,fun e=>?_,fun e=>?_,?_,?_,?_⟩
 ·rw [e] at hlen;simp at hlen;omega
 ·rw [e] at hlen;simp at hlen;omega
 ·rw [e] at hlen;simp at hlen;omega
 ·cases h:vI s n with
  | nil=>exact absurd h hc
  | cons c l =>
    rw [h] at ht
    rw [← ht] at a5
    simpa using a5
 ·rw [List.getLast?_append]
  cases h:zk s with
  | nil=>rw [show vI s n ++ vo n = (vI s n ++ ([32,40] ++ ko n)) ++ [41] from by simp [vo],List.getLast?_nil,Option.none_or,List.getLast?_append,List.getLast?_singleton,Option.some_or];decide
  | cons c l =>
    rw [← hse,h,List.getLast?_append] at a6
    have hx : ∃ y,(c :: l).getLast? = some y:=⟨_,List.getLast?_eq_some_getLast (by simp)⟩
    obtain ⟨y,hy⟩:=hx
    rw [hy] at a6 ⊢
    simpa using a6
 ·intro c hcm
  rcases List.mem_append.1 hcm with hcm|hcm
  ·rcases List.mem_append.1 hcm with hcm|hcm
   ·exact a7 c (by rw [← ht];simp [hcm])
   ·unfold vo at hcm
    rcases List.mem_append.1 hcm with hcm|hcm
    ·rcases List.mem_append.1 hcm with hcm|hcm
     ·simp at hcm;rcases hcm with rfl|rfl<;>decide
     ·exact qe3 h0 h1 c hcm
    ·simp at hcm;subst hcm;decide
  ·exact a7 c (by rw [← hse];simp [hcm])
theorem Wf {p:qP} {n:Int} (h:vg p n = 0):qH p = 0 ∧ 1 ≤ n ∧ n ≤ 99 ∧ vI (jb p) n ≠ [] ∧ j8 (yI p n) = false:=by
 unfold vg at h
 split at h
 case isFalse h'=>exact absurd h h'
 rename_i hp
 split at h
 case isTrue=>exact absurd h (by decide)
 rename_i hn
 unfold vC at h
 split at h
 case isTrue=>exact absurd h (by decide)
 rename_i hc
 split at h
 case isTrue=>exact absurd h (by decide)
 rename_i hg
 exact ⟨hp,by omega,by omega,hc,by simpa using hg⟩
theorem qaC {p:qP} {n:Int} (h:vg p n = 0):qH (yI p n) = 0 ∧ qJ (yI p n) = qJ p:=by
 obtain ⟨hp,h0,h1,hc,hg⟩:=Wf h
 obtain ⟨hpa,hnm, -⟩:=qaE hp
 have hx:=qaB hnm h0 h1 hc
 obtain ⟨e1,e2⟩:=WU (a:=qJ p) (XQ hx)
 refine ⟨xD.2 ⟨fun n hm=>?_,hg⟩,e1⟩
 unfold yI at hm
 rw [e2] at hm
 split at hm
 ·rw [List.mem_singleton] at hm;subst hm;exact hx
 ·rename_i hne
  rcases hpa with hpa|hpa
  ·exact absurd hpa hne
  ·rcases List.mem_append.1 hm with hm|hm
   ·exact (xD.1 hpa).1 n hm
   ·rw [List.mem_singleton] at hm;subst hm;exact hx
end Go.Proofs.YtamejbkifpjhiaaGreatDoor
set_option linter.unusedSimpArgs false
set_option linter.unnecessarySimpa false
set_option linter.unusedVariables false
set_option maxHeartbeats 1000000
namespace Go.Proofs.YtamejbkifpjhiaaGreatDoor
open Go.Ab Go.RowKit
set_option maxRecDepth 10000
attribute [local irreducible] Awp yH jH jw Red ja Go.Ab.Fin qZ Rz vn jr jp ResOk j3 jC yC jA
structure RightE (t:List Ent):Prop where
 rise:qU jf t = true
 paths : ∀ x,x ∈ t → qH x.path = 0
 few:t.length ≤ 400000
def vb (t:List Ent) (c:Chg) (v:Int):Int:=if ¬ yc c = 0 then yc c else if ¬ va t c = 0 then va t c else j5 t c v
def QJ (t:List Ent) (c:Chg) (v:Int):List Ent:=if vb t c v = 0 then jh t c v else []
theorem yU {c:Chg} (h:yc c = 0):1 ≤ c.kind ∧ c.kind ≤ 4 ∧ qH c.path = 0 ∧ (c.kind = 3 → qH c.to = 0) ∧ zG c = 0:=by
 unfold yc at h
 split at h
 ·exact absurd h (by decide)
 ·split at h
  ·contradiction
  ·rename_i h1 h2
   split at h
   ·rename_i h3;exact absurd h h3.2
   ·rename_i h3
    refine ⟨by omega,by omega,by simpa using h2,fun h4=>?_,h⟩
    have h5:=fun e=>h3 ⟨h4,e⟩
    simpa using h5
theorem VX {t:List Ent} {x y:Ent} (h:y ∈ jR t x):y = x ∨ y ∈ t:=by
 unfold jR at h
 split at h
 ·rcases List.mem_append.1 h with h|h
  ·exact .inr (List.mem_of_mem_take h)
  ·rcases List.mem_append.1 h with h|h
   ·exact .inl (List.mem_singleton.1 h)
   ·exact .inr (List.mem_of_mem_drop h)
 ·rcases List.mem_append.1 h with h|h
  ·exact .inr (List.mem_of_mem_take h)
  ·rcases List.mem_append.1 h with h|h
   ·exact .inl (List.mem_singleton.1 h)
   ·exact .inr (List.mem_of_mem_drop h)
theorem VW : ∀ {l t:List Ent} {y:Ent},y ∈ l.foldl jR t → y ∈ l ∨ y ∈ t
 | [],_,_,h => .inr h
 | x :: l,t,y,h=>by
   rcases VW (l:=l) (t:=jR t x) h with h|h
   ·exact .inl (List.mem_cons_of_mem _ h)
   ·rcases VX h with rfl|h
    ·exact .inl (List.mem_cons_self ..)
    ·exact .inr h
theorem YJ {c:Chg} {v:Int} {x:Ent} (hx:qH x.path = 0) (h1:qH c.path = 0) (h2:qH c.to = 0) (hi:inB x.path c.path = true) (hg:j8 (c.to ++ x.path.drop c.path.length) = false):qH (xu c v x).path = 0:=by
 have hm:=Ja hx h1 h2 hi
 rw [hg,if_neg (by decide)] at hm
 have:=(qaD hm).2.1
 exact (xW.1 this).1
theorem qbI {t:List Ent} {c:Chg} {v:Int} (h:j5 t c v = 0):yP t c = false ∧ (jh t c v).length ≤ 60:=by
 unfold j5 at h
 split at h
 ·exact absurd h (by decide)
 ·split at h
  ·exact absurd h (by decide)
  ·rename_i h1 h2
   exact ⟨by simpa using h1,by omega⟩
theorem Wj {t:List Ent} {c:Chg} {v:Int} (ht : ∀ x,x ∈ t → qH x.path = 0) (hce:yc c = 0) (hbad:yP t c = false) : ∀ x,x ∈ jh t c v → qH x.path = 0:=by
 obtain ⟨k1,k2,hpe,hto, -⟩:=yU hce
 intro x hx
 unfold jh at hx
 split at hx
 ·rcases VX hx with rfl|h
  ·exact hpe
  ·exact ht x h
 ·split at hx
  ·rcases VX hx with rfl|h
   ·exact hpe
   ·exact ht x h
  ·split at hx
   ·exact ht x (List.mem_filter.1 hx).1
   ·have k3:c.kind = 3:=by omega
    rcases VW hx with h|h
    ·obtain ⟨y,hy,rfl⟩:=List.mem_map.1 h
     obtain ⟨hy1,hy2⟩:=List.mem_filter.1 hy
     simp only [yP,k3,decide_true,Bool.true_and,List.any_eq_false] at hbad
     exact YJ (ht y hy1) hpe (hto k3) hy2 (by simpa using hbad y hy)
    ·exact ht x (List.mem_filter.1 h).1
theorem Yp {t:List Ent} {c:Chg} {v:Int} (hs:qU jf t = true):qU jf (jh t c v) = true:=by
 unfold jh
 split
 ·exact yW hs
 ·split
  ·exact yW hs
  ·split
   ·exact z8 hs
   ·exact zD (z8 hs)
theorem Jt (t:List Ent) (c:Chg) (v:Int):(jh t c v).length ≤ 2 * t.length + 1:=by
 have h1:=fun x=>wv t x
 have h2:(j7 (zJ c.path) t).length ≤ t.length:=List.length_filter_le ..
 have h3:(jI t c v).length ≤ t.length:=by unfold jI;rw [List.length_map];exact List.length_filter_le ..
 have h4:=QG (jI t c v) (j7 (zJ c.path) t)
 unfold jh
 split
 ·have:=h1 ⟨c.path,true,[],v⟩;omega
 ·split
  ·have:=h1 ⟨c.path,false,c.text,v⟩;omega
  ·split<;>omega
theorem RightE.done {t:List Ent} {c:Chg} {v:Int} (h:RightE t) (hr:vb t c v = 0):RightE (jh t c v):=by
 unfold vb at hr
 split at hr
 ·contradiction
 ·split at hr
  ·contradiction
  ·rename_i h1 h2
   obtain ⟨h3,h4⟩:=qbI hr
   exact ⟨Yp h.rise,Wj h.paths (by simpa using h1) h3,by omega⟩
theorem qdh (t:List Ent) (c:Chg) (v:Int) (h:RightE t) (hce:yc c = 0) (hbad:yP t c = false) :
  qZ C1.P 112 [.os 0 0 t.length,.agg c.row,.v (.int .i64 v)] [.own false 4 (t.map Ent.row)] (V8 (j5 t c v) (jh t c v).length) [.dead,.own false 4 ((jh t c v).map Ent.row)]:=by
 obtain ⟨k1,k2,hpe,hto, -⟩:=yU hce
 have hf:=h.few
 have hl:=Jt t c v
 have hps:=qQ hpe
 by_cases h1:c.kind = 1
 ·exact qeM t c v (by omega) h.rise h1 (by omega)
 ·by_cases h2:c.kind = 2
  ·exact qeN t c v (by omega) h.rise h2 (by omega)
  ·by_cases h4:c.kind = 4
   ·exact qeO t c v (by omega) h4 (by omega)
   ·have h3:c.kind = 3:=by omega
    exact qat t c v hf h3 h.paths hpe (hto h3) hbad h.rise
theorem Jj {t:List Ent} {c:Chg} {v:Int} (h:¬ vb t c v = 0):QJ t c v = []:=by unfold QJ;rw [if_neg h]
theorem qdu (t:List Ent) (c:Chg) (v:Int) (h:RightE t) (hcs:c.small):xH C.P 62 [qa t,.agg c.row,.v (.int .i64 v)] (.tup [qa (QJ t c v),.v (.int .i64 (vb t c v))]):=by
 have hf:=h.few
 have h1:=qdi c hcs
 have h2:=qfT t c (by omega) h.rise hcs
 have h3:=Yg t (by omega)
 have hR:vb t c v = if ¬ yc c = 0 then yc c else if ¬ va t c = 0 then va t c else j5 t c v:=rfl
 have hbadL := @Jj t c v
 by_cases hce:yc c = 0
 ·by_cases hme:va t c = 0
  ·have hR2:vb t c v = j5 t c v:=by rw [hR,if_neg (by simp [hce]),if_neg (by simp [hme])]
   rw [hce] at h1
   rw [hme] at h2
   cases hb:yP t c with
   | true =>
     obtain ⟨k1,k2,hpe,hto, -⟩:=yU hce
     have hk3:c.kind = 3:=by
      simp [yP] at hb;exact hb.1
     have hE:j5 t c v = 2:=by simp [j5,hb]
     have hd:=XG t c v (by omega) hk3 h.paths hpe (hto hk3) hb
     rw [hE] at hR2
     rw [hbadL (by rw [hR2];decide),hR2]
     refine qc Tryz.func62 rfl _ Tryz.ntmps62 (Nat.le_of_ble_eq_true rfl) _ Tryz.results62 0 rfl rfl ?_
     repeat' (first|refine qn ?_|(first|refine jv Tryz.func110 (h1 ..) ?_|refine jv Tryz.func111 (h2 ..) ?_|(apply jo Tryz.func41 rfl rfl;intro hIsFn;refine kv ([]) hIsFn (h3 ..) ?_)|(apply jo Tryz.func112 rfl rfl;intro hIsFn;refine JB ([1]) 1 hIsFn (hd ..) ?_))|((first|refine xsC ?_ ?_);all_goals (intro hc;have hp:=hc;try simp at hp;try (exfalso;omega)))|refine qX ?_ ?_)
     all_goals try (exfalso;omega)
     (exact zO (rs:=[.tmp 6,.tmp 7]))
   | false =>
     have hd:=qdh t c v h hce hb
     by_cases hE:j5 t c v = 0
     ·have hL:QJ t c v = jh t c v:=by unfold QJ;rw [if_pos (by rw [hR2,hE])]
      rw [hE] at hR2 hd
      rw [hL,hR2]
      generalize jh t c v = L at *
      have hd:qZ C1.P 112 [.os 0 0 t.length,.agg c.row,.v (.int .i64 v)] [.own false 4 (t.map Ent.row)] (.tup [.os 1 0 L.length,.v (.int .i64 0)]) [.dead,.own false 4 (L.map Ent.row)]:=hd
      refine qc Tryz.func62 rfl _ Tryz.ntmps62 (Nat.le_of_ble_eq_true rfl) _ Tryz.results62 0 rfl rfl ?_
      repeat' (first|refine qn ?_|(first|refine jv Tryz.func110 (h1 ..) ?_|refine jv Tryz.func111 (h2 ..) ?_|(apply jo Tryz.func41 rfl rfl;intro hIsFn;refine kv ([]) hIsFn (h3 ..) ?_)|(apply jo Tryz.func112 rfl rfl;intro hIsFn;refine kf ([1]) 1 hIsFn (hd ..) ?_))|((first|refine xsC ?_ ?_);all_goals (intro hc;have hp:=hc;try simp at hp;try (exfalso;omega)))|refine qX ?_ ?_)
      all_goals try (exfalso;omega)
      (exact zO (rs:=[.tmp 6,.tmp 7]))
     ·rw [hbadL (by rw [hR2];exact hE),hR2]
      generalize j5 t c v = E at *
      generalize jh t c v = L at *
      have hd:qZ C1.P 112 [.os 0 0 t.length,.agg c.row,.v (.int .i64 v)] [.own false 4 (t.map Ent.row)] (.tup [.sl true [],.v (.int .i64 E)]) [.dead,.own false 4 (L.map Ent.row)]:=by
       rw [V8,if_neg hE] at hd;exact hd
      refine qc Tryz.func62 rfl _ Tryz.ntmps62 (Nat.le_of_ble_eq_true rfl) _ Tryz.results62 0 rfl rfl ?_
      repeat' (first|refine qn ?_|(first|refine jv Tryz.func110 (h1 ..) ?_|refine jv Tryz.func111 (h2 ..) ?_|(apply jo Tryz.func41 rfl rfl;intro hIsFn;refine kv ([]) hIsFn (h3 ..) ?_)|(apply jo Tryz.func112 rfl rfl;intro hIsFn;refine kf ([1]) 1 hIsFn (hd ..) ?_))|((first|refine xsC ?_ ?_);all_goals (intro hc;have hp:=hc;try simp at hp;try (exfalso;omega)))|refine qX ?_ ?_)
      all_goals try (exfalso;omega)
      (exact zO (rs:=[.tmp 6,.tmp 7]))
  ·have hR2:vb t c v = va t c:=by rw [hR,if_neg (by simp [hce]),if_pos hme]
   rw [hce] at h1
   rw [hbadL (by rw [hR2];exact hme),hR2]
   generalize va t c = E at *
   refine qc Tryz.func62 rfl _ Tryz.ntmps62 (Nat.le_of_ble_eq_true rfl) _ Tryz.results62 0 rfl rfl ?_
   repeat' (first|refine qn ?_|(first|refine jv Tryz.func110 (h1 ..) ?_|refine jv Tryz.func111 (h2 ..) ?_)|((first|refine xsC ?_ ?_);all_goals (intro hc;have hp:=hc;try simp at hp;try (exfalso;omega)))|refine qX ?_ ?_)
   all_goals try (exfalso;omega)
   (exact zO (rs:=[.tmp 6,.tmp 7]))
 ·have hR2:vb t c v = yc c:=by rw [hR,if_pos hce]
  rw [hbadL (by rw [hR2];exact hce),hR2]
  generalize yc c = E at *
  refine qc Tryz.func62 rfl _ Tryz.ntmps62 (Nat.le_of_ble_eq_true rfl) _ Tryz.results62 0 rfl rfl ?_
  repeat' (first|refine qn ?_|(first|refine jv Tryz.func110 (h1 ..) ?_)|((first|refine xsC ?_ ?_);all_goals (intro hc;have hp:=hc;try simp at hp;try (exfalso;omega)))|refine qX ?_ ?_)
  all_goals try (exfalso;omega)
  (exact zO (rs:=[.tmp 6,.tmp 7]))
end Go.Proofs.YtamejbkifpjhiaaGreatDoor
set_option linter.unusedSimpArgs false
set_option linter.unnecessarySimpa false
set_option linter.unusedVariables false
namespace Go.Proofs.YtamejbkifpjhiaaGreatDoor
open Go.Op
def qW (t:List Ent) (p:qP):Option Ent:=t.find? (atP p)
theorem jN {t:List Ent} {p:qP} {x:Ent} (h:qW t p = some x):x ∈ t ∧ x.path = p:=by
 have h1:=List.mem_of_find?_eq_some h
 have h2:=List.find?_some h
 exact ⟨h1,by simpa [atP] using h2⟩
theorem xG {t:List Ent} {p:qP}:qW t p = none ↔ ∀ x,x ∈ t → ¬ x.path = p:=by
 unfold qW
 rw [List.find?_eq_none]
 simp [atP]
theorem kH {t:List Ent} (hs:qU jf t = true) {x y:Ent} (hx:x ∈ t) (hy:y ∈ t) (h:x.path = y.path):x = y:=by
 obtain ⟨i,hi,rfl⟩:=List.getElem_of_mem hx
 obtain ⟨j,hj,rfl⟩:=List.getElem_of_mem hy
 rcases Nat.lt_trichotomy i j with h1|h1|h1
 ·have:=vZ hs i j hi hj h1
  rw [h,vD] at this;cases this
 ·subst h1;rfl
 ·have:=vZ hs j i hj hi h1
  rw [h,vD] at this;cases this
theorem vw {t:List Ent} (hs:qU jf t = true) {x:Ent} (hx:x ∈ t):qW t x.path = some x:=by
 cases h:qW t x.path with
 | none=>exact absurd rfl (xG.1 h x hx)
 | some y =>
   obtain ⟨h1,h2⟩:=jN h
   rw [kH hs h1 hx h2]
theorem WH {t:List Ent} (hs:qU jf t = true) {p:qP} {x:Ent}:qW t p = some x ↔ x ∈ t ∧ x.path = p :=
 ⟨jN,fun ⟨h1,h2⟩=>h2 ▸ vw hs h1⟩
theorem Q7 {t:List Ent} {p:qP}:j0 t p = (qW t p).isSome:=by
 unfold j0 qW
 rw [Bool.eq_iff_iff,List.any_eq_true,List.find?_isSome]
theorem Zd : ∀ {t u:List Ent},t.Pairwise (fun a b=>bytesLess a.path b.path = true) → u.Pairwise (fun a b=>bytesLess a.path b.path = true) → (∀ x,x ∈ t ↔ x ∈ u) → t = u
 | [],[],_,_,_=>rfl
 | [],y :: u,_,_,h=>absurd ((h y).2 (by simp)) (by simp)
 | x :: t,[],_,_,h=>absurd ((h x).1 (by simp)) (by simp)
 | x :: t,y :: u,ht,hu,h=>by
   have ht1:=List.pairwise_cons.1 ht
   have hu1:=List.pairwise_cons.1 hu
   have hxy:x = y:=by
    rcases List.mem_cons.1 ((h x).1 (by simp)) with h1|h1
    ·exact h1
    ·rcases List.mem_cons.1 ((h y).2 (by simp)) with h2|h2
     ·exact h2.symm
     ·have h3:=ht1.1 y h2
      have h4:=hu1.1 x h1
      rw [Ym h3] at h4;cases h4
   subst hxy
   refine congrArg _ (Zd ht1.2 hu1.2 fun z=>⟨fun hz=>?_,fun hz=>?_⟩)
   ·rcases List.mem_cons.1 ((h z).1 (by simp [hz])) with h1|h1
    ·subst h1
     have:=ht1.1 z hz
     rw [vD] at this;cases this
    ·exact h1
   ·rcases List.mem_cons.1 ((h z).2 (by simp [hz])) with h1|h1
    ·subst h1
     have:=hu1.1 z hz
     rw [vD] at this;cases this
    ·exact h1
theorem qee {t u:List Ent} (ht:qU jf t = true) (hu:qU jf u = true) (h : ∀ p,qW t p = qW u p):t = u :=
 Zd (jJ.1 ht) (jJ.1 hu) fun x=>by
  constructor
  ·intro hx
   have:=vw ht hx
   rw [h] at this
   exact (jN this).1
  ·intro hx
   have:=vw hu hx
   rw [← h] at this
   exact (jN this).1
theorem Vh {t:List Ent} {x:Ent} (hs:qU jf t = true) (y:Ent):y ∈ jR t x ↔ y = x ∨ (y ∈ t ∧ ¬ y.path = x.path):=by
 obtain ⟨A,M,Z,h,hp,hA,hZ,hM⟩:=Ze x.path (jJ.1 hs)
 rw [QH h hp hM,h]
 have hA' : ∀ a,a ∈ A → ¬ a.path = x.path:=fun a ha=>JP (hA a ha)
 have hZ' : ∀ a,a ∈ Z → ¬ a.path = x.path:=fun a ha e=>JP (hZ a ha) e.symm
 simp only [List.mem_append,List.mem_singleton]
 constructor
 ·rintro (h1|h1|h1)
  ·exact .inr ⟨.inl h1,hA' y h1⟩
  ·exact .inl h1
  ·exact .inr ⟨.inr (.inr h1),hZ' y h1⟩
 ·rintro (h1|⟨h1|h1|h1,h2⟩)
  ·exact .inr (.inl h1)
  ·exact .inl h1
  ·rcases hM with ⟨_,z,rfl,hz⟩|⟨_,rfl⟩
   ·rw [List.mem_singleton.1 h1] at h2;exact absurd hz h2
   ·cases h1
  ·exact .inr (.inr h1)
theorem kb {t:List Ent} {x:Ent} (hs:qU jf t = true) (p:qP):qW (jR t x) p = if p = x.path then some x else qW t p:=by
 have hr:=yW (x:=x) hs
 split
 ·rename_i h
  rw [WH hr,Vh hs]
  exact ⟨.inl rfl,h.symm⟩
 ·rename_i h
  cases hl:qW t p with
  | none =>
    rw [xG] at hl ⊢
    intro y hy
    rcases (Vh hs y).1 hy with rfl|⟨h1,_⟩
    ·exact fun e=>h e.symm
    ·exact hl y h1
  | some y =>
    obtain ⟨h1,h2⟩:=jN hl
    rw [WH hr,Vh hs]
    exact ⟨.inr ⟨h1,by rw [h2];exact h⟩,h2⟩
theorem Xm (t:List Ent) (q p:qP):qW (j7 (zJ q) t) p = if inB p q = true then none else qW t p:=by
 split
 ·rename_i h
  rw [xG]
  intro x hx
  have:=(List.mem_filter.1 hx).2
  intro e
  simp only [zJ,e,h] at this
  exact absurd this (by decide)
 ·rename_i h
  unfold qW j7
  rw [List.find?_filter]
  congr 1
  funext x
  by_cases hx:x.path = p
  ·simp [atP,zJ,hx,h]
  ·simp [atP,hx]
theorem Q8 : ∀ {l t:List Ent},qU jf t = true → (l.Pairwise fun a b => ¬ a.path = b.path) → ∀ p,qW (l.foldl jR t) p = match qW l p with|some x=>some x|none=>qW t p
 | [],t,_,_,p=>rfl
 | x :: l,t,hs,hd,p=>by
   have hd1:=List.pairwise_cons.1 hd
   rw [List.foldl_cons,Q8 (yW hs) hd1.2 p,kb hs]
   by_cases hp:p = x.path
   ·subst hp
    have:qW l x.path = none:=xG.2 fun y hy e=>hd1.1 y hy e.symm
    rw [this]
    simp [qW,atP]
   ·have h2:qW (x :: l) p = qW l p:=by
     unfold qW
     rw [List.find?_cons_of_neg]
     simp [atP];exact fun e=>hp e.symm
    rw [h2,if_neg hp]
theorem vW {p q:qP}:inB p q = true ↔ ∃ r,p = q ++ r ∧ (r = [] ∨ r.head? = some 47):=by
 unfold inB
 rw [Bool.or_eq_true,decide_eq_true_eq,List.isPrefixOf_iff_prefix]
 constructor
 ·rintro (rfl|⟨s,h⟩)
  ·exact ⟨[],by simp,.inl rfl⟩
  ·exact ⟨47 :: s,by rw [← h];simp,.inr rfl⟩
 ·rintro ⟨r,rfl,rfl|h⟩
  ·exact .inl (by simp)
  ·cases r with
   | nil=>exact .inl (by simp)
   | cons c r =>
     simp at h
     subst h
     exact .inr ⟨r,by simp⟩
theorem qeb (p:qP):inB p p = true:=vW.2 ⟨[],by simp,.inl rfl⟩
theorem kZ {p q r:qP} (h1:inB p q = true) (h2:inB q r = true):inB p r = true:=by
 obtain ⟨a,rfl,ha⟩:=vW.1 h1
 obtain ⟨b,rfl,hb⟩:=vW.1 h2
 refine vW.2 ⟨b ++ a,by simp,?_⟩
 cases b with
 | nil=>simpa using ha
 | cons c b=>right;simpa using hb
theorem qea {p q:qP} (h1:inB p q = true) (h2:inB q p = true):p = q:=by
 obtain ⟨a,h,_⟩:=vW.1 h1
 obtain ⟨b,h',_⟩:=vW.1 h2
 have hl:a = []:=by
  have:=congrArg List.length h
  have:=congrArg List.length h'
  simp at *
  exact List.length_eq_zero_iff.1 (by omega)
 rw [h,hl];simp
theorem kY {p q:qP}:inB p q = true ↔ qu q <+: qu p:=by rw [Ve,List.isPrefixOf_iff_prefix]
end Go.Proofs.YtamejbkifpjhiaaGreatDoor
set_option linter.unusedSimpArgs false
set_option linter.unnecessarySimpa false
set_option linter.unusedVariables false
namespace Go.Ab
theorem qbb {C:Cx} {ts:List (Nat × AV)} {hs:List (Nat × HB)} {nx:Nat} (i n:Nat) {off len:Nat} {rows:List (List AV)} (hi:qS ts i = .os n off len) (hn:jg hs n = .fz rows) (hl:off + len ≤ rows.length):Red C ⟨ts,hs,nx⟩ ⟨(i,.sl false ((rows.drop off).take len)) :: ts,hs,nx⟩:=by
 intro B a w hB ⟨g1,g2,F,ρ,hp,g4⟩
 refine ⟨g1,g2,F,ρ, { kept:=hp.kept,agree:=hp.agree,grow:=hp.grow,fresh:=hp.fresh,names:=hp.names,dom:=hp.dom,own:=hp.own,new:=hp.new,sep:=hp.sep },fun m=>?_⟩
 show M F ρ _ (qS ((i,_) :: ts) m)
 rw [wZ]
 by_cases him:i = m
 ·subst him
  rw [if_pos rfl]
  have h1:M F ρ _ (qS ts i):=g4 i
  rw [hi] at h1
  have h2:OwnAt F ρ w n (jg hs n):=hp.own n
  exact qaA (L:=[]) (rh:=[n]) (h:=jg hs) hn (by simp) hl F ρ ρ w _ (fun m hm=>by obtain rfl:=List.mem_singleton.1 hm;exact h2) (fun a b hm c hc=>by
   rcases hm with h|h
   ·obtain rfl:=h.2;exact hc
   ·cases h) h1
 ·rw [if_neg him]
  exact g4 m
end Go.Ab
set_option maxHeartbeats 1000000
namespace Go.Proofs.YtamejbkifpjhiaaGreatDoor
open Go.Ab Go.RowKit
set_option maxRecDepth 10000
attribute [local irreducible] Awp yH jH jw Red ja Go.Ab.Fin qZ Rz vn jr jp ResOk j3 jC yC jA
theorem QR {t:List Ent} (h:qC t = 0):t.length ≤ 60 ∧ (∀ x,x ∈ t → y9 x = 0) ∧ qU jf t = true ∧ ∀ x,x ∈ t → yN t x = 0:=by
 unfold qC at h
 split at h
 ·exact absurd h (by decide)
 ·split at h
  ·split at h
   ·split at h
    ·exact absurd h (by decide)
    ·split at h
     ·exact absurd h (by decide)
     ·rename_i h1 h2 h3 h4 h5
      refine ⟨by omega,xU.1 h2,h3,fun x hx=>?_⟩
      have h6:(t.any fun x=>decide (¬ yN t x = 0)) = false:=by simpa using h5
      rw [List.any_eq_false] at h6
      simpa using h6 x hx
   ·exact absurd h (by decide)
  ·contradiction
theorem jz {x:Ent} (h:y9 x = 0):qH x.path = 0 ∧ ¬ (x.fold = true ∧ ¬ x.text = []) ∧ x.text.length ≤ 300 ∧ vj x.ver = true:=by
 unfold y9 at h
 split at h
 ·split at h
  ·exact absurd h (by decide)
  ·split at h
   ·exact absurd h (by decide)
   ·split at h
    ·exact ⟨by assumption,by assumption,by omega,by assumption⟩
    ·exact absurd h (by decide)
 ·contradiction
theorem RightE.of {t:List Ent} (h:qC t = 0):RightE t:=by
 obtain ⟨h1,h2,h3,h4⟩:=QR h
 exact ⟨h3,fun x hx=>(jz (h2 x hx)).1,by omega⟩
def yJ (t:List Ent) (c:Chg) (v:Int):Int:=if ¬ qC t = 0 then qC t else if vj v = false then 3 else vb t c v
def vf (t:List Ent) (c:Chg) (v:Int):List Ent:=if yJ t c v = 0 then jh t c v else []
theorem qeJ (t:List Ent) (c:Chg) (v:Int) (hb:EBig t) (hcs:c.small):xH C.P 27 [qa t,.agg c.row,.v (.int .i64 v)] (.tup [qa (vf t c v),.v (.int .i64 (yJ t c v))]):=by
 have h1:=Yf t hb
 have h2:=Yh v
 have hE:yJ t c v = if ¬ qC t = 0 then qC t else if vj v = false then 3 else vb t c v:=rfl
 have hL:vf t c v = if yJ t c v = 0 then jh t c v else []:=rfl
 by_cases hte:qC t = 0
 ·have hr:=qdu t c v (RightE.of hte) hcs
  have hrL:QJ t c v = if vb t c v = 0 then jh t c v else []:=rfl
  rw [hte] at h1
  rw [if_neg (by simp [hte])] at hE
  generalize vj v = V at *
  cases V with
  | true =>
    have hE2:yJ t c v = vb t c v:=by rw [hE];simp
    rw [hE2] at hL
    rw [← hL] at hrL
    rw [hrL] at hr
    rw [hE2]
    generalize vf t c v = L at *
    generalize vb t c v = R at *
    refine qc Tryz.func27 rfl _ Tryz.ntmps27 (Nat.le_of_ble_eq_true rfl) _ Tryz.results27 0 rfl rfl ?_
    repeat' (first|refine qn ?_|(first|(refine jL ?_)|refine j1 Tryz.func60 (h1 ..) ?_|refine jv Tryz.func61 (h2 ..) ?_|refine j1 Tryz.func62 (hr ..) ?_)|((first|refine xsC ?_ ?_);all_goals (intro hc;have hp:=hc;try simp at hp;try (exfalso;omega)))|refine qX ?_ ?_)
    all_goals try (exfalso;omega)
    (exact zO (rs:=[.tmp 6,.tmp 7]))
  | false =>
    have hE2:yJ t c v = 3:=by rw [hE];simp
    rw [hE2,if_neg (by decide)] at hL
    rw [hE2,hL]
    refine qc Tryz.func27 rfl _ Tryz.ntmps27 (Nat.le_of_ble_eq_true rfl) _ Tryz.results27 0 rfl rfl ?_
    repeat' (first|refine qn ?_|(first|(refine jL ?_)|refine j1 Tryz.func60 (h1 ..) ?_|refine jv Tryz.func61 (h2 ..) ?_)|((first|refine xsC ?_ ?_);all_goals (intro hc;have hp:=hc;try simp at hp;try (exfalso;omega)))|refine qX ?_ ?_)
    all_goals try (exfalso;omega)
    (exact zO (rs:=[.tmp 6,.tmp 7]))
 ·rw [if_pos hte] at hE
  have hL2:vf t c v = []:=by rw [hL,if_neg (by rw [hE];exact hte)]
  rw [hE,hL2]
  generalize qC t = E at *
  refine qc Tryz.func27 rfl _ Tryz.ntmps27 (Nat.le_of_ble_eq_true rfl) _ Tryz.results27 0 rfl rfl ?_
  repeat' (first|refine qn ?_|(first|(refine jL ?_)|refine j1 Tryz.func60 (h1 ..) ?_)|((first|refine xsC ?_ ?_);all_goals (intro hc;have hp:=hc;try simp at hp;try (exfalso;omega)))|refine qX ?_ ?_)
  all_goals try (exfalso;omega)
  (exact zO (rs:=[.tmp 6,.tmp 7]))
end Go.Proofs.YtamejbkifpjhiaaGreatDoor
set_option linter.unusedSimpArgs false
set_option linter.unnecessarySimpa false
set_option linter.unusedVariables false
namespace Go.Proofs.YtamejbkifpjhiaaGreatDoor
open Go.Op
structure Right (t:List Ent):Prop where
 len:t.length ≤ 60
 ent : ∀ x,x ∈ t → y9 x = 0
 rise:qU jf t = true
 par : ∀ x,x ∈ t → ym t (qJ x.path) = 0
theorem jT {t:List Ent}:qC t = 0 ↔ Right t:=by
 constructor
 ·intro h
  obtain ⟨h1,h2,h3,h4⟩:=QR h
  exact ⟨h1,h2,h3,h4⟩
 ·intro h
  have h1:¬ 60 < t.length:=by have:=h.len;omega
  have h2:t.any (fun x=>decide (yN t x = 5)) = false:=by
   rw [List.any_eq_false];intro x hx
   have:yN t x = 0:=h.par x hx
   simp [this]
  have h3:t.any (fun x=>decide (¬ yN t x = 0)) = false:=by
   rw [List.any_eq_false];intro x hx
   have:yN t x = 0:=h.par x hx
   simp [this]
  unfold qC
  rw [if_neg h1,if_pos (xU.2 h.ent),if_pos h.rise,h2,h3]
  rfl
theorem yF {t:List Ent} {q:qP}:ym t q = 0 ↔ q = [] ∨ ∃ y,qW t q = some y ∧ y.fold = true:=by
 unfold ym qW
 by_cases hq:q = []
 ·simp [hq]
 ·rw [if_neg hq]
  cases h:t.find? (atP q) with
  | none=>simp [hq]
  | some x=>cases hf:x.fold<;>simp [hq,hf]
theorem vy {p:qP} (h:qH p = 0) : ∀ n,n ∈ qu p → n ≠ []:=fun n hn e=>by
 have:=(xD.1 h).1 n hn
 rw [e,VO] at this;cases this
theorem wa {p:qP} (h:(qu p).dropLast ≠ []):qu (qJ p) = (qu p).dropLast:=by
 obtain ⟨h1,h2⟩:=vN p
 rw [← h2]
 exact QB h fun n hn=>QA p n (List.dropLast_subset _ hn)
theorem qfy {p q:qP} (hp:qH p = 0) (hi:inB p q = true) (hne:¬ q = p):¬ qJ p = [] ∧ inB (qJ p) q = true ∧ (qu (qJ p)).length < (qu p).length:=by
 have hpre:=kY.1 hi
 obtain ⟨s,hs⟩:=hpre
 have hsn:s ≠ []:=fun e=>hne (by
  rw [e,List.append_nil] at hs
  rw [← y2 q,hs,y2])
 have hdl:(qu p).dropLast = qu q ++ s.dropLast:=by rw [← hs,List.dropLast_append_of_ne_nil hsn]
 have hdn:(qu p).dropLast ≠ []:=by
  rw [hdl];intro e
  exact xB q (List.append_eq_nil_iff.1 e).1
 have hpn:=wa hdn
 refine ⟨fun e=>?_,?_,?_⟩
 ·have hm:([]:qP) ∈ qu (qJ p):=by rw [e];simp [qu]
  rw [hpn] at hm
  exact vy hp [] (List.dropLast_subset _ hm) rfl
 ·rw [kY,hpn,hdl]
  exact List.prefix_append _ _
 ·rw [hpn,List.length_dropLast]
  have:=names_pos' p
  omega
where names_pos' (p:qP):0 < (qu p).length:=List.length_pos_iff.2 (xB p)
theorem Kz {p:qP} (hp:qH p = 0):¬ qJ p = p:=fun e=>by
 obtain ⟨h1,h2⟩:=vN p
 have h3:(qu p).dropLast ≠ [] ∨ (qu p).dropLast = []:=(Decidable.em _).symm
 rcases h3 with h3|h3
 ·have:=wa h3
  rw [e] at this
  have hl:=congrArg List.length this
  rw [List.length_dropLast] at hl
  have:=List.length_pos_iff.2 (xB p)
  omega
 ·rw [h3] at h2
  have:p = []:=by rw [← e, ← h2];rfl
  subst this
  exact vy hp [] (by simp [qu]) rfl
theorem J5 {p:qP} (hp:qH p = 0) (hne:¬ qJ p = []):inB p (qJ p) = true:=by
 obtain ⟨h1,h2⟩:=vN p
 have hdn:(qu p).dropLast ≠ []:=fun e=>hne (by rw [← h2,e];rfl)
 rw [kY,wa hdn]
 exact List.dropLast_prefix _
theorem anc {t:List Ent} (h:Right t) : ∀ (n:Nat) (x:Ent),x ∈ t → (qu x.path).length = n → ∀ q,inB x.path q = true → ¬ q = x.path → ∃ y,qW t q = some y ∧ y.fold = true:=by
 intro n
 induction n using Nat.strongRecOn with
 | _ n ih =>
   intro x hx hn q hi hne
   have hpe:=(jz (h.ent x hx)).1
   obtain ⟨h1,h2,h3⟩:=qfy hpe hi hne
   rcases yF.1 (h.par x hx) with h4|⟨y,h4,h5⟩
   ·exact absurd h4 h1
   ·obtain ⟨h6,h7⟩:=jN h4
    by_cases hq:q = qJ x.path
    ·subst hq;exact ⟨y,h4,h5⟩
    ·exact ih (qu y.path).length (by rw [h7];omega) y h6 rfl q (by rw [h7];exact h2) (by rw [h7];exact hq)
theorem qfr {t:List Ent} (h:Right t) {q p:qP} (hq:qW t q = none) (hi:inB p q = true):qW t p = none:=by
 cases hl:qW t p with
 | none=>rfl
 | some x =>
   obtain ⟨h1,h2⟩:=jN hl
   by_cases e:q = p
   ·subst e;rw [hq] at hl;cases hl
   ·obtain ⟨y,h3,_⟩:=anc h _ x h1 rfl q (by rw [h2];exact hi) (by rw [h2];exact e)
    rw [hq] at h3;cases h3
theorem wR {u:List Ent} (hs:qU jf u = true) (hl:u.length ≤ 60) (h : ∀ p x,qW u p = some x → y9 x = 0 ∧ (qJ p = [] ∨ ∃ y,qW u (qJ p) = some y ∧ y.fold = true)):Right u :=
 ⟨hl,fun x hx=>(h _ x (vw hs hx)).1,hs,fun x hx=>yF.2 (h _ x (vw hs hx)).2⟩
theorem qef {t:List Ent} {c:Chg} (h:va t c = 0):ym t (qJ (jS c)) = 0 ∧ v8 t c = 0 ∧ zR t c = 0 ∧ yb t c = 0:=by
 unfold va at h
 split at h
 ·contradiction
 ·split at h
  ·contradiction
  ·split at h
   ·contradiction
   ·exact ⟨by omega,by omega,by omega,h⟩
theorem qev {t:List Ent} {c:Chg} {v:Int} (h:vb t c v = 0):yc c = 0 ∧ va t c = 0 ∧ j5 t c v = 0:=by
 unfold vb at h
 split at h
 ·contradiction
 ·split at h
  ·contradiction
  ·exact ⟨by omega,by omega,h⟩
def Yl (c:Chg) (p:qP):qP:=c.path ++ p.drop c.to.length
theorem qbE {c:Chg} {p:qP} (h:inB p c.to = true) : ∃ r,p = c.to ++ r ∧ Yl c p = c.path ++ r ∧ inB (Yl c p) c.path = true ∧ (r = [] ∨ r.head? = some 47):=by
 obtain ⟨r,rfl,hr⟩:=vW.1 h
 have hb:Yl c (c.to ++ r) = c.path ++ r:=by simp [Yl]
 exact ⟨r,rfl,hb,by rw [hb];exact vW.2 ⟨r,rfl,hr⟩,hr⟩
theorem VI {t:List Ent} {c:Chg} {v:Int} {y:Ent} (h:y ∈ jI t c v) : ∃ x r,x ∈ t ∧ x.path = c.path ++ r ∧ (r = [] ∨ r.head? = some 47) ∧ y = xu c v x ∧ y.path = c.to ++ r:=by
 obtain ⟨x,hx,rfl⟩:=List.mem_map.1 h
 obtain ⟨hx1,hx2⟩:=List.mem_filter.1 hx
 obtain ⟨r,hr,hr2⟩:=vW.1 hx2
 exact ⟨x,r,hx1,hr,hr2,rfl,by simp [xu,hr]⟩
theorem qcC {t:List Ent} {c:Chg} {v:Int} (hs:qU jf t = true) (p:qP):qW (jI t c v) p = if inB p c.to = true then (qW t (Yl c p)).map (xu c v) else none:=by
 split
 ·rename_i h
  obtain ⟨r,rfl,hb,hbi,hr⟩:=qbE (c:=c) h
  rw [hb] at hbi ⊢
  cases hl:qW t (c.path ++ r) with
  | none =>
    rw [Option.map_none,xG]
    intro y hy e
    obtain ⟨x,r',h1,h2,_,_,h3⟩:=VI hy
    rw [h3] at e
    have:=List.append_cancel_left e
    subst this
    exact xG.1 hl x h1 h2
  | some x =>
    obtain ⟨h1,h2⟩:=jN hl
    rw [Option.map_some]
    have hm:xu c v x ∈ jI t c v:=List.mem_map.2 ⟨x,List.mem_filter.2 ⟨h1,by unfold zJ;rw [h2];exact hbi⟩,rfl⟩
    have hp:(xu c v x).path = c.to ++ r:=by simp [xu,h2]
    cases hf:qW (jI t c v) (c.to ++ r) with
    | none=>exact absurd hp (xG.1 hf _ hm)
    | some y =>
      obtain ⟨h3,h4⟩:=jN hf
      obtain ⟨x',r',h5,h6,_,h7,h8⟩:=VI h3
      rw [h8] at h4
      have:=List.append_cancel_left h4
      subst this
      rw [h7,kH hs h1 h5 (by rw [h2,h6])]
 ·rename_i h
  rw [xG]
  intro y hy e
  obtain ⟨x,r,h1,h2,h3,_,h4⟩:=VI hy
  exact h (vW.2 ⟨r,by rw [← e,h4],h3⟩)
theorem qaM {t:List Ent} {c:Chg} {v:Int} (hs:qU jf t = true):(jI t c v).Pairwise fun a b => ¬ a.path = b.path:=by
 unfold jI
 rw [List.pairwise_map]
 have h1:(t.filter (zJ c.path)).Pairwise (fun a b=>bytesLess a.path b.path = true):=(jJ.1 hs).sublist List.filter_sublist
 refine h1.imp_of_mem fun {a b} ha hb hlt=>?_
 obtain ⟨r,hr,_⟩:=vW.1 (List.mem_filter.1 ha).2
 obtain ⟨s,hs',_⟩:=vW.1 (List.mem_filter.1 hb).2
 intro e
 simp only [xu,hr,hs',List.drop_left] at e
 have:=List.append_cancel_left e
 rw [hr,hs',this,vD] at hlt
 cases hlt
theorem qcD {t:List Ent} {c:Chg} {v:Int} (h:Right t) (hk:c.kind = 3) (hto:qW t c.to = none) (p:qP):qW (jh t c v) p = if inB p c.to = true then (qW t (Yl c p)).map (xu c v) else if inB p c.path = true then none else qW t p:=by
 have hD:jh t c v = (jI t c v).foldl jR (j7 (zJ c.path) t):=by simp [jh,hk]
 rw [hD,Q8 (z8 h.rise) (qaM h.rise),qcC h.rise,Xm]
 by_cases hi:inB p c.to = true
 ·rw [if_pos hi,if_pos hi]
  cases hl:qW t (Yl c p) with
  | some x=>rfl
  | none =>
    rw [Option.map_none]
    have:=qfr h hto hi
    simp [this]
 ·rw [if_neg hi,if_neg hi]
theorem qfx {a r:qP} : ∃ s,(∀ b:qP,qJ (b ++ 47 :: r) = b ++ s) ∧ (s = [] ∨ s.head? = some 47):=by
 rcases Qd (c:=47) r with h|⟨r1,r2,rfl,h⟩
 ·exact ⟨[],fun b=>by rw [(JG h).1];simp,.inl rfl⟩
 ·refine ⟨47 :: r1,fun b=>?_,.inr rfl⟩
  have:=(JG (a:=b ++ 47 :: r1) h).1
  rw [← this];simp
theorem qdD {c:Chg} (h:yc c = 0):c.text.length ≤ 300:=by
 have:=(yU h).2.2.2.2
 unfold zG at this
 split at this
 ·exact absurd this (by decide)
 ·split at this
  ·exact absurd this (by decide)
  ·omega
theorem J0 {p:qP} {f:Bool} {s:qP} {v:Int} (h1:qH p = 0) (h2:f = true → s = []) (h3:s.length ≤ 300) (h4:vj v = true):y9 ⟨p,f,s,v⟩ = 0:=by
 unfold y9
 simp only
 rw [if_pos h1,if_neg (fun e=>e.2 (h2 e.1)),if_neg (by omega),if_pos h4]
theorem Vz {t:List Ent} {c:Chg} {v:Int} (h:Right t) (hv:vj v = true) (hr:vb t c v = 0):Right (jh t c v):=by
 obtain ⟨hc0,hm0,hd0⟩:=qev hr
 obtain ⟨k1,k2,hpe,hte, -⟩:=yU hc0
 obtain ⟨hf,hi,hmv, -⟩:=qef hm0
 obtain ⟨hb,h60⟩:=qbI hd0
 have hs:=Yp (c:=c) (v:=v) h.rise
 have htx:=qdD hc0
 refine wR hs h60 fun p x hx=>?_
 by_cases e1:c.kind = 1
 ·have hD:jh t c v = jR t ⟨c.path,true,[],v⟩:=by simp [jh,e1]
  have hg:jS c = c.path:=by simp [jS,e1]
  rw [hg] at hf
  rw [hD,kb h.rise] at hx
  have key : ∀ q,(∃ y,qW t q = some y ∧ y.fold = true) → ∃ y,qW (jh t c v) q = some y ∧ y.fold = true:=fun q ⟨y,h1,h2⟩=>by
   rw [hD,kb h.rise]
   split
   ·exact ⟨_,rfl,rfl⟩
   ·exact ⟨y,h1,h2⟩
  split at hx
  ·rename_i hp
   injection hx with hx
   subst hx;subst hp
   exact ⟨J0 hpe (fun _=>rfl) (by simp) hv,(yF.1 hf).imp id (key _)⟩
  ·obtain ⟨h1,h2⟩:=jN hx
   refine ⟨h.ent x h1,?_⟩
   have:=yF.1 (h.par x h1)
   rw [h2] at this
   exact this.imp id (key _)
 ·by_cases e2:c.kind = 2
  ·have hD:jh t c v = jR t ⟨c.path,false,c.text,v⟩:=by simp [jh,e2]
   have hg:jS c = c.path:=by simp [jS,e2]
   rw [hg] at hf
   rw [hD,kb h.rise] at hx
   have hfa : ∀ y,qW t c.path = some y → y.fold = false:=fun y hy=>by
    unfold v8 at hi
    rw [if_neg e1,if_pos e2] at hi
    unfold vh at hi
    rw [show t.find? (atP c.path) = some y from hy] at hi
    cases hyf:y.fold with
    | false=>rfl
    | true=>simp [hyf] at hi
   have key : ∀ q,(∃ y,qW t q = some y ∧ y.fold = true) → ∃ y,qW (jh t c v) q = some y ∧ y.fold = true:=fun q ⟨y,h1,h2⟩=>by
    rw [hD,kb h.rise]
    split
    ·rename_i e
     simp only at e
     rw [e] at h1
     rw [hfa y h1] at h2;cases h2
    ·exact ⟨y,h1,h2⟩
   split at hx
   ·rename_i hp
    injection hx with hx
    subst hx;subst hp
    exact ⟨J0 hpe (fun e=>by cases e) htx hv,(yF.1 hf).imp id (key _)⟩
   ·obtain ⟨h1,h2⟩:=jN hx
    refine ⟨h.ent x h1,?_⟩
    have:=yF.1 (h.par x h1)
    rw [h2] at this
    exact this.imp id (key _)
  ·by_cases e4:c.kind = 4
   ·have hD:jh t c v = j7 (zJ c.path) t:=by simp [jh,e4]
    rw [hD,Xm] at hx
    split at hx
    ·cases hx
    ·rename_i hin
     obtain ⟨h1,h2⟩:=jN hx
     refine ⟨h.ent x h1,?_⟩
     have hxe:=(jz (h.ent x h1)).1
     have:=yF.1 (h.par x h1)
     rw [h2] at this hxe
     rcases this with h3|⟨y,h3,h4⟩
     ·exact .inl h3
     ·refine .inr ⟨y,?_,h4⟩
      rw [hD,Xm,if_neg]
      ·exact h3
      ·intro h5
       have hne:¬ qJ p = []:=fun e=>by
        rw [e] at h3
        obtain ⟨h6,h7⟩:=jN h3
        have:=(jz (h.ent y h6)).1
        rw [h7] at this
        exact vy this [] (by simp [qu]) rfl
       exact hin (kZ (J5 hxe hne) h5)
   ·have e3:c.kind = 3:=by omega
    have hpt:=hte e3
    have hg:jS c = c.to:=by simp [jS,e3]
    rw [hg] at hf
    have hM:zR t c = if inB c.to c.path = true then 3 else if j0 t c.to = true then 6 else 0:=by unfold zR;rw [if_pos e3]
    rw [hmv] at hM
    have hin0:inB c.to c.path = false:=by
     cases h0:inB c.to c.path with
     | true=>rw [h0] at hM;simp at hM
     | false=>rfl
    rw [hin0,if_neg (by decide)] at hM
    have hhit:j0 t c.to = false:=by
     cases h0:j0 t c.to with
     | true=>rw [h0] at hM;simp at hM
     | false=>rfl
    have hto:qW t c.to = none:=(xO hhit).1
    have hlm:=qcD (v:=v) h e3 hto
    rw [hlm] at hx
    have nonil : ∀ q y,qW t q = some y → ¬ q = []:=fun q y hy e=>by
     obtain ⟨h6,h7⟩:=jN hy
     have:=(jz (h.ent y h6)).1
     rw [h7,e] at this
     exact vy this [] (by simp [qu]) rfl
    split at hx
    ·rename_i hi2
     obtain ⟨r,rfl,hb2,hbi,hr2⟩:=qbE (c:=c) hi2
     rw [hb2] at hx hbi
     obtain ⟨x0,hx0,rfl⟩:=Option.map_eq_some_iff.1 hx
     obtain ⟨h1,h2⟩:=jN hx0
     have he0:=jz (h.ent x0 h1)
     refine ⟨?_,?_⟩
     ·have hpm:qH (xu c v x0).path = 0:=by
       refine YJ he0.1 hpe hpt (by rw [h2];exact hbi) ?_
       simp only [yP,e3,decide_true,Bool.true_and,List.any_eq_false] at hb
       simpa using hb x0 (List.mem_filter.2 ⟨h1,by unfold zJ;rw [h2];exact hbi⟩)
      refine J0 hpm (fun e=>?_) he0.2.2.1 ?_
      ·cases hs0:x0.text with
       | nil=>rfl
       | cons a s=>exact absurd ⟨e,by rw [hs0];simp⟩ he0.2.1
      ·split
       ·exact hv
       ·exact he0.2.2.2
     ·rcases hr2 with rfl|hr2
      ·rw [List.append_nil]
       rcases yF.1 hf with h3|⟨y,h3,h4⟩
       ·exact .inl h3
       ·refine .inr ⟨y,?_,h4⟩
        have hne:=nonil _ y h3
        have hpi:=J5 hpt hne
        rw [hlm,if_neg,if_neg]
        ·exact h3
        ·intro h5
         have:=kZ hpi h5
         rw [hin0] at this;cases this
        ·intro h5
         exact Kz hpt (qea h5 hpi)
      ·cases r with
       | nil=>cases hr2
       | cons a r =>
         simp at hr2
         subst hr2
         obtain ⟨s,hs1,hs2⟩:=qfx (a:=c.to) (r:=r)
         have hp0:=yF.1 (h.par x0 h1)
         rw [h2,hs1 c.path] at hp0
         rcases hp0 with h3|⟨y,h3,h4⟩
         ·have:c.path = []:=(List.append_eq_nil_iff.1 h3).1
          rw [this] at hpe
          exact absurd rfl (vy hpe [] (by simp [qu]))
         ·refine .inr ⟨xu c v y,?_,h4⟩
          have hin3:inB (c.to ++ s) c.to = true:=vW.2 ⟨s,rfl,hs2⟩
          rw [hs1 c.to,hlm,if_pos hin3,show Yl c (c.to ++ s) = c.path ++ s from by simp [Yl],h3]
          rfl
    ·rename_i hi2
     split at hx
     ·cases hx
     ·rename_i hi3
      obtain ⟨h1,h2⟩:=jN hx
      refine ⟨h.ent x h1,?_⟩
      have hxe:=(jz (h.ent x h1)).1
      have:=yF.1 (h.par x h1)
      rw [h2] at this hxe
      rcases this with h3|⟨y,h3,h4⟩
      ·exact .inl h3
      ·have hpi:=J5 hxe (nonil _ y h3)
       refine .inr ⟨y,?_,h4⟩
       rw [hlm,if_neg (fun h5=>hi2 (kZ hpi h5)),if_neg (fun h5=>hi3 (kZ hpi h5))]
       exact h3
theorem Right.big {t:List Ent} (h:Right t):EBig t:=⟨fun x hx=>by
 have h1:=jz (h.ent x hx)
 have h2:=qQ h1.1
 exact ⟨by omega,by omega⟩,by have:=h.len;omega⟩
end Go.Proofs.YtamejbkifpjhiaaGreatDoor
set_option linter.unusedSimpArgs false
set_option linter.unnecessarySimpa false
set_option linter.unusedVariables false
set_option maxHeartbeats 1000000
namespace Go.Proofs.YtamejbkifpjhiaaGreatDoor
open Go.Ab Go.RowKit
set_option maxRecDepth 10000
attribute [local irreducible] Awp yH jH jw Red ja Go.Ab.Fin qZ Rz vn jr jp ResOk j3 jC yC jA
def wo (a b:Ent):Bool:=decide (a.path = b.path) && decide (a.fold = b.fold) && decide (a.text = b.text)
def WF:List Ent → List Ent → Bool
 | [],[]=>true
 | a :: s,b :: t=>wo a b && WF s t
 | _,_=>false
theorem qaw (a b:List Ent) (ha:EBig a) (hb:EBig b):xH C.P 81 [qa a,qa b] (.v (.int .i64 (jK qC [a,b]))):=by
 have h1:=kS a ha
 have h2:=kS b hb
 have hE:jK qC [a,b] = if qC a = 0 then qC b else qC a:=by simp only [jK];split<;>(try split)<;>simp_all
 rw [hE]
 generalize qC a = A at *
 generalize qC b = B at *
 refine qc Tryz.func81 rfl _ Tryz.ntmps81 (Nat.le_of_ble_eq_true rfl) _ Tryz.results81 0 rfl rfl ?_
 repeat' (first|refine qn ?_|(first|refine jv Tryz.func31 (h1 ..) ?_|refine jv Tryz.func31 (h2 ..) ?_)|((first|refine xsC ?_ ?_);all_goals (intro hc;have hp:=hc;try simp at hp;try (exfalso;omega)))|refine qX ?_ ?_)
 all_goals try (exfalso;omega)
 all_goals (apply jY;rfl;simp_all)
theorem qf7 (a b:Ent):xH C.P 124 [.agg a.row,.agg b.row] (.v (.bool (wo a b))):=by
 have hE:wo a b = (decide (a.path = b.path) && decide (a.fold = b.fold) && decide (a.text = b.text)):=rfl
 generalize wo a b = E at *
 refine qc Tryz.func124 rfl _ Tryz.ntmps124 (Nat.le_of_ble_eq_true rfl) _ Tryz.results124 0 rfl rfl ?_
 repeat' (first|refine qn ?_|(first|(refine qem ?_))|((first|refine qf ?_ ?_|refine qe ?_ ?_|refine xsC ?_ ?_);all_goals (intro hc;have hp:=hc;try simp at hp;try (exfalso;omega)))|refine qX ?_ ?_)
 all_goals (apply j6;rfl;rw [hE];simp_all)
def zN (a b:List Ent):Int:=jK qC [a,b]
theorem Z3 (a b:List Ent):zN a b = if qC a = 0 then qC b else qC a:=by simp only [zN,jK];split<;>(try split)<;>simp_all
theorem K7 (a b:List Ent) (ha:EBig a) (hb:EBig b):xH C.P 68 [qa a,qa b] (.v (.int .i64 (zN a b))):=by
 have h1:=zW a ha
 have h2:=zW b hb
 rw [Z3]
 generalize qC a = A at *
 generalize qC b = B at *
 refine qc Tryz.func68 rfl _ Tryz.ntmps68 (Nat.le_of_ble_eq_true rfl) _ Tryz.results68 0 rfl rfl ?_
 repeat' (first|refine qn ?_|(first|refine jv Tryz.func63 (h1 ..) ?_|refine jv Tryz.func63 (h2 ..) ?_)|((first|refine xsC ?_ ?_);all_goals (intro hc;have hp:=hc;try simp at hp;try (exfalso;omega)))|refine qX ?_ ?_)
 all_goals try (exfalso;omega)
 all_goals (apply jY;rfl;simp_all)
end Go.Proofs.YtamejbkifpjhiaaGreatDoor
set_option linter.unusedSimpArgs false
set_option linter.unnecessarySimpa false
set_option linter.unusedVariables false
set_option maxHeartbeats 1000000
namespace Go.Proofs.YtamejbkifpjhiaaGreatDoor
open Go.Ab Go.RowKit
set_option maxRecDepth 10000
attribute [local irreducible] Awp yH jH jw Red ja Go.Ab.Fin qZ Rz vn jr jp ResOk j3 jC yC jA
theorem qdk (p:qP → Bool) (g:FuncId) (hg:IsFn C.P g) (cap:List AV) (hcap:AV.pure.pureL cap = true) (l:List (qP)) (hl:l.length ≤ 1000000) (hc : ∀ s,s ∈ l → xH C.P g ((AV.v (str s)) :: cap) (.v (.bool (p s)))) :
  xH C.P 153 [.sl false (l.map qO),.clo (.func g) [] cap] (.v (.int .i64 (xj p l))):=by
 refine qc Tryz.func153 rfl _ Tryz.ntmps153 (Nat.le_of_ble_eq_true rfl) _ Tryz.results153 0 rfl rfl ?_
 repeat' (first|refine qn ?_|fail|((first|refine xsC ?_ ?_);all_goals (intro hc;have hp:=hc;try simp at hp;try (exfalso;omega)))|refine qX ?_ ?_)
 (refine Awp.red (qI (ts:=[(0,.sl false (l.map qO)),(1,.clo (.func g) [] cap),(7,.v (.int .i64 l.length)),(8,.v (.int .i64 ((0:Nat):Int)))]) ?_) ?_;((repeat (first|exact qg|refine qo ?_|refine qY ?_ ?_))))
 all_goals try (rw [List.length_map];done)
 refine qV (fun n σ => ∃ i:Nat,i ≤ l.length ∧ n = l.length - i ∧ (∀ s,s ∈ l.take i → p s = false) ∧ σ = ⟨[(0,.sl false (l.map qO)),(1,.clo (.func g) [] cap),(7,.v (.int .i64 l.length)),(8,.v (.int .i64 (i:Int)))],[],C.nh⟩) l.length ⟨0,Nat.zero_le _,rfl,(by simp),rfl⟩ ?_
 rintro n σ ⟨i,hi,rfl,hsofar,rfl⟩
 by_cases hlt:i < l.length
 ·have hr:=jB (f:=qO) hlt
  have hci:=hc l[i] (List.getElem_mem _)
  repeat' (first|refine qn ?_|(first|(apply qi;apply Q0 [];rfl;exact hg;exact hci;(case hz=>exact qA (q4 rfl) (YZ hcap));(case hfl=>rfl);(case hN=>exact nle rfl)))|((first|refine xsC ?_ ?_);all_goals (intro hc;have hp:=hc;try simp at hp;try (exfalso;omega)))|refine qX ?_ ?_)
  all_goals try (exfalso;omega)
  ·apply jY
   rfl
   exact (Q6 hlt hsofar hp).symm
  ·refine ⟨l.length - (i + 1),_,by omega,qI (ts:=[(0,.sl false (l.map qO)),(1,.clo (.func g) [] cap),(7,.v (.int .i64 l.length)),(8,.v (.int .i64 ((i + 1:Nat):Int)))]) ?_,i + 1,by omega,rfl,ya hlt hsofar hp,rfl⟩;((repeat (first|exact qg|refine qo ?_|refine qY ?_ ?_)))
 obtain rfl:i = l.length:=by omega
 repeat' (first|refine qn ?_|fail|((first|refine xsC ?_ ?_);all_goals (intro hc;have hp:=hc;try simp at hp;try (exfalso;omega)))|refine qX ?_ ?_)
 all_goals try (exfalso;omega)
 apply jY
 rfl
 exact (wk fun s hs=>hsofar s (by rw [List.take_length];exact hs)).symm
theorem K6 (p:qP → Bool) (g:FuncId) (hg:IsFn C.P g) (cap:List AV) (hcap:AV.pure.pureL cap = true) (l:List (qP)) (hl:l.length ≤ 1000000) (hc : ∀ s,s ∈ l → xH C.P g ((AV.v (str s)) :: cap) (.v (.bool (p s)))) :
  xH C.P 121 [.sl false (l.map qO),.clo (.func g) [] cap] (.v (.bool (l.any p))):=by
 have hidx:=qdk p g hg cap hcap l hl hc
 refine qc Tryz.func121 rfl _ Tryz.ntmps121 (Nat.le_of_ble_eq_true rfl) _ Tryz.results121 0 rfl rfl ?_
 repeat' (first|refine qn ?_|(first|(apply qi;apply j9 [];exact jW Tryz.func153 rfl rfl;exact hidx;(case hz=>exact qA (q4 rfl) (qA (wM hcap) q5));(case hfl=>rfl);(case hN=>exact nle rfl)))|((first|refine xsC ?_ ?_);all_goals (intro hc;have hp:=hc;try simp at hp;try (exfalso;omega)))|refine qX ?_ ?_)
 apply j6
 rfl
 rw [← Xh]
def zj (b:List Ent) (x:Ent):Bool:=match b.find? (atP x.path) with|none=>true|some y=>decide (¬ y.fold = x.fold)
def vv (b:List Ent) (g:List qP) (x:Ent):List qP:=if (g.any fun p=>inB x.path p) = true then g else if zj b x = true then g ++ [x.path] else g
def q7 (a b:List Ent):List qP:=a.foldl (vv b) []
def xr (p:qP):Chg:=⟨4,p,[],[], -1⟩
def vd (x:Ent):Chg:=⟨if x.fold = true then 1 else 2,x.path,[],x.text, -1⟩
def yQ (a:List Ent) (x:Ent):Bool:=match a.find? (atP x.path) with|some y=>wo y x|none=>false
def YT (a b:List Ent):List Chg:=(q7 a b).map xr ++ (b.filter fun x => !yQ a x).map vd
theorem VJ {a b:List Ent} {i:Nat} (h:i < a.length):q7 (a.take (i + 1)) b = vv b (q7 (a.take i) b) a[i]:=by
 unfold q7
 rw [List.take_succ_eq_append_getElem h,List.foldl_append];rfl
theorem Xf (a b:List Ent):(q7 a b).length ≤ a.length:=by
 have : ∀ (l:List Ent) (g:List qP),(l.foldl (vv b) g).length ≤ g.length + l.length:=by
  intro l
  induction l with
  | nil=>intro g;simp
  | cons x l ih =>
    intro g
    have h1:=ih (vv b g x)
    have h2:(vv b g x).length ≤ g.length + 1:=by unfold vv;split<;>(try split)<;>simp
    simp only [List.foldl_cons,List.length_cons];omega
 have:=this a []
 simpa [q7] using this
def vQ (a b:List Ent) (i:Nat):List Chg:=(q7 a b).map xr ++ ((b.take i).filter fun x => !yQ a x).map vd
theorem qeu {a b:List Ent} {i:Nat} (h:i < b.length):vQ a b (i + 1) = if yQ a b[i] = true then vQ a b i else vQ a b i ++ [vd b[i]]:=by
 unfold vQ
 rw [List.take_succ_eq_append_getElem h,List.filter_append]
 cases hs:yQ a b[i]<;>simp [hs]
theorem qga (x:Ent) (p:qP) (hp:p.length ≤ 140737488355328):xH C.P 122 [.v (str p),.fp [x.row] 0 0] (.v (.bool (inB x.path p))):=by
 have hin:=qau x.path p hp
 refine qc Tryz.func122 rfl _ Tryz.ntmps122 (Nat.le_of_ble_eq_true rfl) _ Tryz.results122 0 rfl rfl ?_
 repeat' (first|refine qn ?_|(first|refine jv Tryz.func123 (hin ..) ?_)|((first|refine xsC ?_ ?_);all_goals (intro hc;have hp:=hc;try simp at hp;try (exfalso;omega)))|refine qX ?_ ?_)
 all_goals (apply j6;rfl;rfl)
set_option maxHeartbeats 1600000 in
theorem qdt (a b:List Ent) (hla:a.length ≤ 1000000) (hlb:b.length ≤ 1000000) (hea : ∀ x,x ∈ a → x.small) (hsa:qU jf a = true) (hsb:qU jf b = true) :
  qZ C.P 69 [qa a,qa b] [] (.os 0 0 (YT a b).length) [.own false 5 ((YT a b).map Chg.row)]:=by
 refine qc Tryz.func69 rfl _ Tryz.ntmps69 (Nat.le_of_ble_eq_true rfl) _ Tryz.results69 0 rfl rfl ?_
 repeat' (first|refine qn ?_|fail|((first|refine qf ?_ ?_|refine qe ?_ ?_|refine xsC ?_ ?_);all_goals (intro hc;have hp:=hc;try simp at hp;try (exfalso;omega)))|refine qX ?_ ?_)
 refine Awp.red (ye 5 5 rfl (Nat.zero_le _)) ?_
 refine Awp.red (ye 6 1 rfl (Nat.zero_le _)) ?_
 (refine Awp.red (qB (τ:=⟨[(0,qa a),(1,qa b),(5,.os 0 0 0),(6,.os 1 0 0),(16,qa a),(17,.v (.int .i64 a.length)),(18,.v (.int .i64 ((0:Nat):Int)))],[(0,.own false 5 []),(1,.own false 1 [])],2⟩) [(0,0),(1,1)] rfl ?gts ?ghs) ?gmain;(case gts=>(repeat (first|exact qg|refine qo ?_|refine yg ?_|refine x6 ?_|refine qY ?_ ?_));all_goals (rw [List.length_map]));(case ghs=>(repeat (first|exact qj|refine j4 ?_|refine q6 ?_ ?_))))
 refine qV (fun n σ => ∃ i:Nat,i ≤ a.length ∧ n = a.length - i ∧ (∀ p,p ∈ q7 (a.take i) b → p.length ≤ 1000000000) ∧ σ = ⟨[(0,qa a),(1,qa b),(5,.os 0 0 (q7 (a.take i) b).length),(6,.os 1 0 (q7 (a.take i) b).length),(16,qa a),(17,.v (.int .i64 a.length)),(18,.v (.int .i64 (i:Int)))],[(0,.own false 5 ((q7 (a.take i) b).map fun p=>(xr p).row)),(1,.own false 1 ((q7 (a.take i) b).map qO))],2⟩) a.length ⟨0,Nat.zero_le _,rfl,(by simp [q7]),rfl⟩ ?_
 rintro n σ ⟨i,hi,rfl,hsofar,rfl⟩
 have hgl:=Xf (a.take i) b
 have htl:(a.take i).length ≤ a.length:=by simp;omega
 by_cases hlt:i < a.length
 ·have hr:=jB (f:=Ent.row) hlt
  have hsm:=hea a[i] (List.getElem_mem _)
  have hgs := @VJ a b i hlt
  have hgg:vv b (q7 (a.take i) b) a[i] = if ((q7 (a.take i) b).any fun p=>inB a[i].path p) = true then q7 (a.take i) b else if zj b a[i] = true then q7 (a.take i) b ++ [a[i].path] else q7 (a.take i) b:=rfl
  rw [hgg] at hgs
  generalize q7 (a.take i) b = G at *
  have hcon:=K6 (fun p=>inB a[i].path p) 122 (jW Tryz.func122 rfl rfl) [.fp [a[i].row] 0 0] rfl G (by omega) (fun p hp=>qga a[i] p (by have:=hsofar p hp;omega))
  have hat:=KZ b a[i].path (by omega) hsb
  have hdf:zj b a[i] = match b.find? (atP a[i].path) with|none=>true|some y=>decide (¬ y.fold = a[i].fold):=rfl
  have hng : ∀ p,p ∈ G ++ [a[i].path] → p.length ≤ 1000000000:=fun p hp=>by
   rcases List.mem_append.1 hp with hp|hp
   ·exact hsofar p hp
   ·rw [List.mem_singleton.1 hp];exact hsm.1
  generalize zj b a[i] = D at *
  generalize (G.any fun p=>inB a[i].path p) = A at *
  cases hh:j0 b a[i].path with
  | true =>
    obtain ⟨hk,hpe,hfi, -⟩:=zw hsb hh
    rw [hh] at hat
    rw [hfi] at hdf
    have hrb:=jB (f:=Ent.row) hk
    generalize xg b a[i].path = k at *
    repeat' (first|refine qn ?_|(first|(refine jL ?_)|(refine yi ?_)|refine j1 Tryz.func120 (hat ..) ?_|(apply qi;apply j9 ([1,2]);exact jW Tryz.func121 rfl rfl;exact hcon;(case hz=>(refine qA (jU rfl (by simp) (qK fun _=>rfl)) (qA (jO q5 (qA (qah rfl (by simp) (vR (fun row hrow=>by rw [List.mem_singleton.1 hrow];rfl))) q5)) q5)));(case hfl=>rfl);(case hN=>exact nle rfl))|(refine qem ?_))|((first|refine qf ?_ ?_|refine qe ?_ ?_|refine xsC ?_ ?_);all_goals (intro hc;have hp:=hc;try simp at hp;try (exfalso;omega)))|refine qX ?_ ?_)
    all_goals try (exfalso;omega)
    all_goals first
     | (have hg2:q7 (a.take (i + 1)) b = G:=(by rw [hgs];simp_all);refine ⟨a.length - (i + 1),_,by omega,qB (τ:=⟨[(0,qa a),(1,qa b),(5,.os 0 0 (q7 (a.take (i + 1)) b).length),(6,.os 1 0 (q7 (a.take (i + 1)) b).length),(16,qa a),(17,.v (.int .i64 a.length)),(18,.v (.int .i64 ((i + 1:Nat):Int)))],[(0,.own false 5 ((q7 (a.take (i + 1)) b).map fun p=>(xr p).row)),(1,.own false 1 ((q7 (a.take (i + 1)) b).map qO))],2⟩) [(0,0),(1,1)] rfl ?gts ?ghs,i + 1,by omega,rfl,(by rw [hg2];exact hsofar),rfl⟩;(case gts=>(repeat (first|exact qg|refine qo ?_|refine yg ?_|refine x6 ?_|refine qY ?_ ?_));all_goals (rw [hg2]));(case ghs=>(repeat (first|exact qj|refine j4 ?_|refine q6 ?_ ?_));all_goals (rw [hg2])))
     | (have hg2:q7 (a.take (i + 1)) b = G ++ [a[i].path]:=(by rw [hgs];simp_all);refine ⟨a.length - (i + 1),_,by omega,qB (τ:=⟨[(0,qa a),(1,qa b),(5,.os 0 0 (q7 (a.take (i + 1)) b).length),(6,.os 1 0 (q7 (a.take (i + 1)) b).length),(16,qa a),(17,.v (.int .i64 a.length)),(18,.v (.int .i64 ((i + 1:Nat):Int)))],[(0,.own false 5 ((q7 (a.take (i + 1)) b).map fun p=>(xr p).row)),(1,.own false 1 ((q7 (a.take (i + 1)) b).map qO))],2⟩) [(3,0),(4,1)] rfl ?gts ?ghs,i + 1,by omega,rfl,(by rw [hg2];exact hng),rfl⟩;(case gts=>(repeat (first|exact qg|refine qo ?_|refine yg ?_|refine x6 ?_|refine qY ?_ ?_));all_goals (rw [hg2];first|(rw [List.take_of_length_le (by simp),List.map_append];rfl)|(simp;done)));(case ghs=>(repeat (first|exact qj|refine j4 ?_|refine q6 ?_ ?_));all_goals (rw [hg2];first|(rw [List.take_of_length_le (by simp),List.map_append];rfl)|(simp;done))))
  | false =>
    rw [hh] at hat
    rw [(xO hh).1] at hdf
    repeat' (first|refine qn ?_|(first|(refine jL ?_)|(refine yi ?_)|refine j1 Tryz.func120 (hat ..) ?_|(apply qi;apply j9 ([1,2]);exact jW Tryz.func121 rfl rfl;exact hcon;(case hz=>(refine qA (jU rfl (by simp) (qK fun _=>rfl)) (qA (jO q5 (qA (qah rfl (by simp) (vR (fun row hrow=>by rw [List.mem_singleton.1 hrow];rfl))) q5)) q5)));(case hfl=>rfl);(case hN=>exact nle rfl))|(refine qem ?_))|((first|refine qf ?_ ?_|refine qe ?_ ?_|refine xsC ?_ ?_);all_goals (intro hc;have hp:=hc;try simp at hp;try (exfalso;omega)))|refine qX ?_ ?_)
    all_goals try (exfalso;omega)
    all_goals first
     | (have hg2:q7 (a.take (i + 1)) b = G:=(by rw [hgs];simp_all);refine ⟨a.length - (i + 1),_,by omega,qB (τ:=⟨[(0,qa a),(1,qa b),(5,.os 0 0 (q7 (a.take (i + 1)) b).length),(6,.os 1 0 (q7 (a.take (i + 1)) b).length),(16,qa a),(17,.v (.int .i64 a.length)),(18,.v (.int .i64 ((i + 1:Nat):Int)))],[(0,.own false 5 ((q7 (a.take (i + 1)) b).map fun p=>(xr p).row)),(1,.own false 1 ((q7 (a.take (i + 1)) b).map qO))],2⟩) [(0,0),(1,1)] rfl ?gts ?ghs,i + 1,by omega,rfl,(by rw [hg2];exact hsofar),rfl⟩;(case gts=>(repeat (first|exact qg|refine qo ?_|refine yg ?_|refine x6 ?_|refine qY ?_ ?_));all_goals (rw [hg2]));(case ghs=>(repeat (first|exact qj|refine j4 ?_|refine q6 ?_ ?_));all_goals (rw [hg2])))
     | (have hg2:q7 (a.take (i + 1)) b = G ++ [a[i].path]:=(by rw [hgs];simp_all);refine ⟨a.length - (i + 1),_,by omega,qB (τ:=⟨[(0,qa a),(1,qa b),(5,.os 0 0 (q7 (a.take (i + 1)) b).length),(6,.os 1 0 (q7 (a.take (i + 1)) b).length),(16,qa a),(17,.v (.int .i64 a.length)),(18,.v (.int .i64 ((i + 1:Nat):Int)))],[(0,.own false 5 ((q7 (a.take (i + 1)) b).map fun p=>(xr p).row)),(1,.own false 1 ((q7 (a.take (i + 1)) b).map qO))],2⟩) [(3,0),(4,1)] rfl ?gts ?ghs,i + 1,by omega,rfl,(by rw [hg2];exact hng),rfl⟩;(case gts=>(repeat (first|exact qg|refine qo ?_|refine yg ?_|refine x6 ?_|refine qY ?_ ?_));all_goals (rw [hg2];first|(rw [List.take_of_length_le (by simp),List.map_append];rfl)|(simp;done)));(case ghs=>(repeat (first|exact qj|refine j4 ?_|refine q6 ?_ ?_));all_goals (rw [hg2];first|(rw [List.take_of_length_le (by simp),List.map_append];rfl)|(simp;done))))
 obtain rfl:i = a.length:=by omega
 rw [List.take_length] at *
 repeat' (first|refine qn ?_|fail|((first|refine qf ?_ ?_|refine qe ?_ ?_|refine xsC ?_ ?_);all_goals (intro hc;have hp:=hc;try simp at hp;try (exfalso;omega)))|refine qX ?_ ?_)
 all_goals try (exfalso;omega)
 have hR0:(q7 a b).map (fun p=>(xr p).row) = (vQ a b 0).map Chg.row:=by simp [vQ]
 have hL0:(q7 a b).length = (vQ a b 0).length:=by simp [vQ]
 rw [hR0,hL0]
 (refine Awp.red (qB (τ:=⟨[(0,qa a),(5,.os 0 0 (vQ a b 0).length),(56,qa b),(57,.v (.int .i64 b.length)),(58,.v (.int .i64 ((0:Nat):Int)))],[(0,.own false 5 ((vQ a b 0).map Chg.row))],1⟩) [(0,0)] rfl ?gts2 ?ghs2) ?gmain2;(case gts2=>(repeat (first|exact qg|refine qo ?_|refine yg ?_|refine x6 ?_|refine qY ?_ ?_));all_goals (rw [List.length_map]));(case ghs2=>(repeat (first|exact qj|refine j4 ?_|refine q6 ?_ ?_))))
 refine qV (fun n σ => ∃ i:Nat,i ≤ b.length ∧ n = b.length - i ∧ (True) ∧ σ = ⟨[(0,qa a),(5,.os 0 0 (vQ a b i).length),(56,qa b),(57,.v (.int .i64 b.length)),(58,.v (.int .i64 (i:Int)))],[(0,.own false 5 ((vQ a b i).map Chg.row))],1⟩) b.length ⟨0,Nat.zero_le _,rfl,trivial,rfl⟩ ?_
 rintro n σ ⟨i,hi,rfl, -,rfl⟩
 have hgl:(vQ a b i).length ≤ 2000000:=by
  have h1:=Xf a b
  have h2:((b.take i).filter fun x => !yQ a x).length ≤ (b.take i).length:=List.length_filter_le ..
  have h3:(b.take i).length ≤ b.length:=by simp;omega
  simp only [vQ,List.length_append,List.length_map];omega
 by_cases hlt:i < b.length
 ·have hr:=jB (f:=Ent.row) hlt
  have hgs := @qeu a b i hlt
  have hmk1:b[i].fold = true → (vd b[i]).row = [.v (.int .i64 1),.v (str b[i].path),.v (str []),.v (str b[i].text),.v (.int .i64 (-1))]:=fun h=>by simp [vd,Chg.row,h]
  have hmk2:b[i].fold = false → (vd b[i]).row = [.v (.int .i64 2),.v (str b[i].path),.v (str []),.v (str b[i].text),.v (.int .i64 (-1))]:=fun h=>by simp [vd,Chg.row,h]
  have hat:=KZ a b[i].path (by omega) hsa
  have hst:yQ a b[i] = match a.find? (atP b[i].path) with|some y=>wo y b[i]|none=>false:=rfl
  generalize vQ a b i = G at *
  cases hh:j0 a b[i].path with
  | true =>
    obtain ⟨hk,hpe,hfi, -⟩:=zw hsa hh
    rw [hh] at hat
    rw [hfi] at hst
    have hra:=jB (f:=Ent.row) hk
    generalize xg a b[i].path = k at *
    have hlk:=qf7 a[k] b[i]
    have hst2:yQ a b[i] = wo a[k] b[i]:=hst
    obtain ⟨LK,hLK⟩ : ∃ LK,wo a[k] b[i] = LK:=⟨_,rfl⟩
    rw [hLK] at hst2 hlk
    rw [hst2] at hgs
    clear hst hfi hh hsofar
    repeat' (first|refine qn ?_|(first|(refine jL ?_)|(refine yi ?_)|refine j1 Tryz.func120 (hat ..) ?_|refine jv Tryz.func124 (hlk ..) ?_)|((first|refine qf ?_ ?_|refine qe ?_ ?_|refine xsC ?_ ?_);all_goals (intro hc;have hp:=hc;try simp at hp;try (exfalso;omega)))|refine qX ?_ ?_)
    all_goals try (exfalso;omega)
    all_goals first
     | (have hg2:vQ a b (i + 1) = G:=(by rw [hgs,if_pos (by assumption)]);refine ⟨b.length - (i + 1),_,by omega,qB (τ:=⟨[(0,qa a),(5,.os 0 0 (vQ a b (i + 1)).length),(56,qa b),(57,.v (.int .i64 b.length)),(58,.v (.int .i64 ((i + 1:Nat):Int)))],[(0,.own false 5 ((vQ a b (i + 1)).map Chg.row))],1⟩) [(0,0)] rfl ?gts ?ghs,i + 1,by omega,rfl,trivial,rfl⟩;(case gts=>(repeat (first|exact qg|refine qo ?_|refine yg ?_|refine x6 ?_|refine qY ?_ ?_));all_goals (rw [hg2]));(case ghs=>(repeat (first|exact qj|refine j4 ?_|refine q6 ?_ ?_));all_goals (rw [hg2])))
     | (have hg2:vQ a b (i + 1) = G ++ [vd b[i]]:=(by rw [hgs,if_neg (Bool.eq_false_iff.1 (by assumption))]);refine ⟨b.length - (i + 1),_,by omega,qB (τ:=⟨[(0,qa a),(5,.os 0 0 (vQ a b (i + 1)).length),(56,qa b),(57,.v (.int .i64 b.length)),(58,.v (.int .i64 ((i + 1:Nat):Int)))],[(0,.own false 5 ((vQ a b (i + 1)).map Chg.row))],1⟩) [(3,0)] rfl ?gts ?ghs,i + 1,by omega,rfl,trivial,rfl⟩;(case gts=>(repeat (first|exact qg|refine qo ?_|refine yg ?_|refine x6 ?_|refine qY ?_ ?_));all_goals (rw [hg2];first|(rw [List.take_of_length_le (by simp),List.map_append];show _ = _ ++ [(vd b[i]).row];first|(rw [hmk1 (by assumption)];rfl)|(rw [hmk2 (by assumption)];rfl))|(simp;done)));(case ghs=>(repeat (first|exact qj|refine j4 ?_|refine q6 ?_ ?_));all_goals (rw [hg2];first|(rw [List.take_of_length_le (by simp),List.map_append];show _ = _ ++ [(vd b[i]).row];first|(rw [hmk1 (by assumption)];rfl)|(rw [hmk2 (by assumption)];rfl))|(simp;done))))
  | false =>
    rw [hh] at hat
    rw [(xO hh).1] at hst
    have hst:yQ a b[i] = false:=hst
    clear hh hsofar
    repeat' (first|refine qn ?_|(first|(refine jL ?_)|(refine yi ?_)|refine j1 Tryz.func120 (hat ..) ?_)|((first|refine qf ?_ ?_|refine qe ?_ ?_|refine xsC ?_ ?_);all_goals (intro hc;have hp:=hc;try simp at hp;try (exfalso;omega)))|refine qX ?_ ?_)
    all_goals try (exfalso;omega)
    all_goals (have hg2:vQ a b (i + 1) = G ++ [vd b[i]]:=(by rw [hgs,if_neg (Bool.eq_false_iff.1 (by assumption))]);refine ⟨b.length - (i + 1),_,by omega,qB (τ:=⟨[(0,qa a),(5,.os 0 0 (vQ a b (i + 1)).length),(56,qa b),(57,.v (.int .i64 b.length)),(58,.v (.int .i64 ((i + 1:Nat):Int)))],[(0,.own false 5 ((vQ a b (i + 1)).map Chg.row))],1⟩) [(3,0)] rfl ?gts ?ghs,i + 1,by omega,rfl,trivial,rfl⟩;(case gts=>(repeat (first|exact qg|refine qo ?_|refine yg ?_|refine x6 ?_|refine qY ?_ ?_));all_goals (rw [hg2];first|(rw [List.take_of_length_le (by simp),List.map_append];show _ = _ ++ [(vd b[i]).row];first|(rw [hmk1 (by assumption)];rfl)|(rw [hmk2 (by assumption)];rfl))|(simp;done)));(case ghs=>(repeat (first|exact qj|refine j4 ?_|refine q6 ?_ ?_));all_goals (rw [hg2];first|(rw [List.take_of_length_le (by simp),List.map_append];show _ = _ ++ [(vd b[i]).row];first|(rw [hmk1 (by assumption)];rfl)|(rw [hmk2 (by assumption)];rfl))|(simp;done))))
 obtain rfl:i = b.length:=by omega
 repeat' (first|refine qn ?_|fail|((first|refine qf ?_ ?_|refine qe ?_ ?_|refine xsC ?_ ?_);all_goals (intro hc;have hp:=hc;try simp at hp;try (exfalso;omega)))|refine qX ?_ ?_)
 all_goals try (exfalso;omega)
 have hall:vQ a b b.length = YT a b:=by simp [vQ,YT]
 rw [hall]
 (refine QV (rs:=[.tmp 4]) [(0,0)] 1 ?_;(repeat (first|exact qj|refine j4 ?_|refine q6 ?_ ?_));all_goals trace_state)
theorem qgM (a b:List Ent) (hla:a.length ≤ 1000000) (hlb:b.length ≤ 1000000) (hea : ∀ x,x ∈ a → x.small) (hsa:qU jf a = true) (hsb:qU jf b = true) :
  xH C.P 69 [qa a,qa b] (wE (YT a b)) :=
 qaz (qdt a b hla hlb hea hsa hsb) (jU rfl (by simp) (qK fun _=>rfl))
end Go.Proofs.YtamejbkifpjhiaaGreatDoor
