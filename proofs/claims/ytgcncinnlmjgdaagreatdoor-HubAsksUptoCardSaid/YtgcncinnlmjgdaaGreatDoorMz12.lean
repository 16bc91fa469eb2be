import Derived.Test.YtgcncinnlmjgdaaGreatDoorMz11
set_option linter.unusedSimpArgs false
set_option linter.unnecessarySimpa false
set_option linter.unusedVariables false
set_option maxHeartbeats 1000000
set_option maxRecDepth 10000
namespace Go.Proofs.YtgcncinnlmjgdaaGreatDoor
open Go.Ab Go.RowKit
attribute [local irreducible] Awp j9 jr ye Red qz Go.Ab.Fin qf Rz wz jF jU ResOk yA j1 xR qX
structure RightE (t:List Ent):Prop where
 rise:ql yq t = true
 paths : ∀ x,x ∈ t → qA x.path = 0
 few:t.length ≤ 400000
def Qb (t:List Ent) (c:Chg) (v:Int):Int:=if ¬ xz c = 0 then xz c else if ¬ zv t c = 0 then zv t c else xG t c v
def qjd (t:List Ent) (c:Chg) (v:Int):List Ent:=if Qb t c v = 0 then jI t c v else []
theorem zz {c:Chg} (h:xz c = 0):1 ≤ c.kind ∧ c.kind ≤ 4 ∧ qA c.path = 0 ∧ (c.kind = 3 → qA c.to = 0) ∧ wU c = 0:=by
 unfold xz at h;split at h
 ·exact absurd h (by decide)
 ·split at h
  ·contradiction
  ·rename_i h1 h2;split at h
   ·rename_i h3;exact absurd h h3.2
   ·rename_i h3;refine ⟨by omega,by omega,by simpa using h2,fun h4=>?_,h⟩;have h5:=fun e=>h3 ⟨h4,e⟩
    simpa using h5
theorem WZ {t:List Ent} {x y:Ent} (h:y ∈ xU t x):y = x ∨ y ∈ t:=by
 unfold xU at h;split at h
 ·rcases List.mem_append.1 h with h|h
  ·exact .inr (List.mem_of_mem_take h)
  ·rcases List.mem_append.1 h with h|h
   ·exact .inl (List.mem_singleton.1 h)
   ·exact .inr (List.mem_of_mem_drop h)
 ·rcases List.mem_append.1 h with h|h
  ·exact .inr (List.mem_of_mem_take h)
  ·rcases List.mem_append.1 h with h|h
   ·exact .inl (List.mem_singleton.1 h)
   ·exact .inr (List.mem_of_mem_drop h)
theorem WY : ∀ {l t:List Ent} {y:Ent},y ∈ l.foldl xU t → y ∈ l ∨ y ∈ t
 | [],_,_,h => .inr h
 | x :: l,t,y,h=>by
   rcases WY (l:=l) (t:=xU t x) h with h|h
   ·exact .inl (List.mem_cons_of_mem _ h)
   ·rcases WZ h with rfl|h
    ·exact .inl (List.mem_cons_self ..)
    ·exact .inr h
theorem VV {c:Chg} {v:Int} {x:Ent} (hx:qA x.path = 0) (h1:qA c.path = 0) (h2:qA c.to = 0) (hi:inB x.path c.path = true) (hg:yD (c.to ++ x.path.drop c.path.length) = false):qA (vb c v x).path = 0:=by
 have hm:=YH hx h1 h2 hi;rw [hg,if_neg (by decide)] at hm;have:=(qfl hm).2.1;exact (yK.1 this).1
theorem qhi {t:List Ent} {c:Chg} {v:Int} (h:xG t c v = 0):va t c = false ∧ (jI t c v).length ≤ 60:=by
 unfold xG at h;split at h
 ·exact absurd h (by decide)
 ·split at h
  ·exact absurd h (by decide)
  ·rename_i h1 h2;exact ⟨by simpa using h1,by omega⟩
theorem qdD {t:List Ent} {c:Chg} {v:Int} (ht : ∀ x,x ∈ t → qA x.path = 0) (hce:xz c = 0) (hbad:va t c = false) : ∀ x,x ∈ jI t c v → qA x.path = 0:=by
 obtain ⟨k1,k2,hpe,hto, -⟩:=zz hce;intro x hx;unfold jI at hx;split at hx
 ·rcases WZ hx with rfl|h
  ·exact hpe
  ·exact ht x h
 ·split at hx
  ·rcases WZ hx with rfl|h
   ·exact hpe
   ·exact ht x h
  ·split at hx
   ·exact ht x (List.mem_filter.1 hx).1
   ·have k3:c.kind = 3:=by omega
    rcases WY hx with h|h
    ·obtain ⟨y,hy,rfl⟩:=List.mem_map.1 h;obtain ⟨hy1,hy2⟩:=List.mem_filter.1 hy;simp only [va,k3,decide_true,Bool.true_and,List.any_eq_false] at hbad;exact VV (ht y hy1) hpe (hto k3) hy2 (by simpa using hbad y hy)
    ·exact ht x (List.mem_filter.1 h).1
theorem Vu {t:List Ent} {c:Chg} {v:Int} (hs:ql yq t = true):ql yq (jI t c v) = true:=by
 unfold jI;split
 ·exact wn hs
 ·split
  ·exact wn hs
  ·split
   ·exact wX hs
   ·exact Jc (wX hs)
theorem qiE (t:List Ent) (c:Chg) (v:Int):(jI t c v).length ≤ 2 * t.length + 1:=by
 have h1:=fun x=>qet t x
 have h2:(yI (Zp c.path) t).length ≤ t.length:=List.length_filter_le ..;have h3:(jO t c v).length ≤ t.length:=by unfold jO;rw [List.length_map];exact List.length_filter_le ..
 have h4:=X5 (jO t c v) (yI (Zp c.path) t);unfold jI;split
 ·have:=h1 ⟨c.path,true,[],v⟩;omega
 ·split
  ·have:=h1 ⟨c.path,false,c.text,v⟩;omega
  ·split<;>omega
theorem RightE.done {t:List Ent} {c:Chg} {v:Int} (h:RightE t) (hr:Qb t c v = 0):RightE (jI t c v):=by
 unfold Qb at hr;split at hr
 ·contradiction
 ·split at hr
  ·contradiction
  ·rename_i h1 h2;obtain ⟨h3,h4⟩:=qhi hr;exact ⟨Vu h.rise,qdD h.paths (by simpa using h1) h3,by omega⟩
theorem qnX (t:List Ent) (c:Chg) (v:Int) (h:RightE t) (hce:xz c = 0) (hbad:va t c = false) :
  qf C1.P 225 [.os 0 0 t.length,.agg c.row,.v (.int .i64 v)] [.own false 4 (t.map Ent.row)] (qbF (xG t c v) (jI t c v).length) [.dead,.own false 4 ((jI t c v).map Ent.row)]:=by
 obtain ⟨k1,k2,hpe,hto, -⟩:=zz hce;have hf:=h.few;have hl:=qiE t c v;have hps:=xf hpe;by_cases h1:c.kind = 1
 ·exact qmg t c v (by omega) h.rise h1 (by omega)
 ·by_cases h2:c.kind = 2
  ·exact qmh t c v (by omega) h.rise h2 (by omega)
  ·by_cases h4:c.kind = 4
   ·exact qmi t c v (by omega) h4 (by omega)
   ·have h3:c.kind = 3:=by omega
    exact qe8 t c v hf h3 h.paths hpe (hto h3) hbad h.rise
theorem qls {t:List Ent} {c:Chg} {v:Int} (h:¬ Qb t c v = 0):qjd t c v = []:=by unfold qjd;rw [if_neg h]
theorem qn5 (t:List Ent) (c:Chg) (v:Int) (h:RightE t) (hcs:c.small):jN C.P 195 [qU t,.agg c.row,.v (.int .i64 v)] (.tup [qU (qjd t c v),.v (.int .i64 (Qb t c v))]):=by
 have hf:=h.few;have h1:=qnY c hcs;have h2:=qpd t c (by omega) h.rise hcs;have h3:=Wb t (by omega)
 have hR:Qb t c v = if ¬ xz c = 0 then xz c else if ¬ zv t c = 0 then zv t c else xG t c v:=rfl
 have hbadL := @qls t c v;by_cases hce:xz c = 0
 ·by_cases hme:zv t c = 0
  ·have hR2:Qb t c v = xG t c v:=by rw [hR,if_neg (by simp [hce]),if_neg (by simp [hme])]
   rw [hce] at h1;rw [hme] at h2
   cases hb:va t c with
   | true =>
     obtain ⟨k1,k2,hpe,hto, -⟩:=zz hce
     have hk3:c.kind = 3:=by
      simp [va] at hb;exact hb.1
     have hE:xG t c v = 2:=by simp [xG,hb]
     have hd:=qde t c v (by omega) hk3 h.paths hpe (hto hk3) hb;rw [hE] at hR2;rw [hbadL (by rw [hR2];decide),hR2];refine qJ 0 ?_
     repeat' (first|refine qg ?_|(first|refine jT (h1 ..) ?_|refine jT (h2 ..) ?_|(refine jP ([]) qi (h3 ..) ?_)|(refine Q8 ([1]) 1 qi (hd ..) ?_))|(refine xsS ?_ ?_;all_goals first|exact False.elim|intro hp hc)|refine xsA ?_ ?_)
     all_goals try (exfalso;omega)
     (exact kw (rs:=[.tmp 6,.tmp 7]))
   | false =>
     have hd:=qnX t c v h hce hb;by_cases hE:xG t c v = 0
     ·have hL:qjd t c v = jI t c v:=by unfold qjd;rw [if_pos (by rw [hR2,hE])]
      rw [hE] at hR2 hd;rw [hL,hR2];generalize jI t c v = L at *;have hd:qf C1.P 225 [.os 0 0 t.length,.agg c.row,.v (.int .i64 v)] [.own false 4 (t.map Ent.row)] (.tup [.os 1 0 L.length,.v (.int .i64 0)]) [.dead,.own false 4 (L.map Ent.row)]:=hd;refine qJ 0 ?_
      repeat' (first|refine qg ?_|(first|refine jT (h1 ..) ?_|refine jT (h2 ..) ?_|(refine jP ([]) qi (h3 ..) ?_)|(refine zn ([1]) 1 qi (hd ..) ?_))|(refine xsS ?_ ?_;all_goals first|exact False.elim|intro hp hc)|refine xsA ?_ ?_)
      all_goals try (exfalso;omega)
      (exact kw (rs:=[.tmp 6,.tmp 7]))
     ·rw [hbadL (by rw [hR2];exact hE),hR2];generalize xG t c v = E at *;generalize jI t c v = L at *
      have hd:qf C1.P 225 [.os 0 0 t.length,.agg c.row,.v (.int .i64 v)] [.own false 4 (t.map Ent.row)] (.tup [.sl true [],.v (.int .i64 E)]) [.dead,.own false 4 (L.map Ent.row)]:=by
       rw [qbF,if_neg hE] at hd;exact hd
      refine qJ 0 ?_
      repeat' (first|refine qg ?_|(first|refine jT (h1 ..) ?_|refine jT (h2 ..) ?_|(refine jP ([]) qi (h3 ..) ?_)|(refine zn ([1]) 1 qi (hd ..) ?_))|(refine xsS ?_ ?_;all_goals first|exact False.elim|intro hp hc)|refine xsA ?_ ?_)
      all_goals try (exfalso;omega)
      (exact kw (rs:=[.tmp 6,.tmp 7]))
  ·have hR2:Qb t c v = zv t c:=by rw [hR,if_neg (by simp [hce]),if_pos hme]
   rw [hce] at h1;rw [hbadL (by rw [hR2];exact hme),hR2];generalize zv t c = E at *;refine qJ 0 ?_;exact Yp
 ·have hR2:Qb t c v = xz c:=by rw [hR,if_pos hce]
  rw [hbadL (by rw [hR2];exact hce),hR2];generalize xz c = E at *;refine qJ 0 ?_;exact Yp
end Go.Proofs.YtgcncinnlmjgdaaGreatDoor
namespace Go.Proofs.YtgcncinnlmjgdaaGreatDoor
open Go.Op
def qD (t:List Ent) (p:qb):Option Ent:=t.find? (atP p)
theorem yZ {t:List Ent} {p:qb} {x:Ent} (h:qD t p = some x):x ∈ t ∧ x.path = p:=by
 have h1:=List.mem_of_find?_eq_some h;have h2:=List.find?_some h;exact ⟨h1,by simpa [atP] using h2⟩
theorem zI {t:List Ent} {p:qb}:qD t p = none ↔ ∀ x,x ∈ t → ¬ x.path = p:=by
 unfold qD;rw [List.find?_eq_none];simp [atP]
theorem qep {t:List Ent} (hs:ql yq t = true) {x y:Ent} (hx:x ∈ t) (hy:y ∈ t) (h:x.path = y.path):x = y:=by
 obtain ⟨i,hi,rfl⟩:=List.getElem_of_mem hx;obtain ⟨j,hj,rfl⟩:=List.getElem_of_mem hy;rcases Nat.lt_trichotomy i j with h1|h1|h1
 ·have:=zx hs i j hi hj h1;rw [h,zp] at this;cases this
 ·subst h1;rfl
 ·have:=zx hs j i hj hi h1;rw [h,zp] at this;cases this
theorem WV {t:List Ent} (hs:ql yq t = true) {x:Ent} (hx:x ∈ t):qD t x.path = some x:=by
 cases h:qD t x.path with
 | none=>exact absurd rfl (zI.1 h x hx)
 | some y =>
   obtain ⟨h1,h2⟩:=yZ h;rw [qep hs h1 hx h2]
theorem qd4 {t:List Ent} (hs:ql yq t = true) {p:qb} {x:Ent}:qD t p = some x ↔ x ∈ t ∧ x.path = p :=
 ⟨yZ,fun ⟨h1,h2⟩=>h2 ▸ WV hs h1⟩
theorem qcv {t:List Ent} {x:Ent} (hs:ql yq t = true) (y:Ent):y ∈ xU t x ↔ y = x ∨ (y ∈ t ∧ ¬ y.path = x.path):=by
 obtain ⟨A,M,Z,h,hp,hA,hZ,hM⟩:=qgI x.path (vQ.1 hs);rw [qaf h hp hM,h];have hA' : ∀ a,a ∈ A → ¬ a.path = x.path:=fun a ha=>qhc (hA a ha)
 have hZ' : ∀ a,a ∈ Z → ¬ a.path = x.path:=fun a ha e=>qhc (hZ a ha) e.symm
 simp only [List.mem_append,List.mem_singleton];constructor
 ·rintro (h1|h1|h1)
  ·exact .inr ⟨.inl h1,hA' y h1⟩
  ·exact .inl h1
  ·exact .inr ⟨.inr (.inr h1),hZ' y h1⟩
 ·rintro (h1|⟨h1|h1|h1,h2⟩)
  ·exact .inr (.inl h1)
  ·exact .inl h1
  ·rcases hM with ⟨_,z,rfl,hz⟩|⟨_,rfl⟩
   ·rw [List.mem_singleton.1 h1] at h2;exact absurd hz h2
   ·cases h1
  ·exact .inr (.inr h1)
theorem YE {t:List Ent} {x:Ent} (hs:ql yq t = true) (p:qb):qD (xU t x) p = if p = x.path then some x else qD t p:=by
 have hr:=wn (x:=x) hs;split
 ·rename_i h;rw [qd4 hr,qcv hs];exact ⟨.inl rfl,h.symm⟩
 ·rename_i h
  cases hl:qD t p with
  | none =>
    rw [zI] at hl ⊢;intro y hy
    rcases (qcv hs y).1 hy with rfl|⟨h1,_⟩
    ·exact fun e=>h e.symm
    ·exact hl y h1
  | some y =>
    obtain ⟨h1,h2⟩:=yZ hl;rw [qd4 hr,qcv hs];exact ⟨.inr ⟨h1,by rw [h2];exact h⟩,h2⟩
theorem ZO (t:List Ent) (q p:qb):qD (yI (Zp q) t) p = if inB p q = true then none else qD t p:=by
 split
 ·rename_i h;rw [zI];intro x hx;have:=(List.mem_filter.1 hx).2;intro e;simp only [Zp,e,h] at this;exact absurd this (by decide)
 ·rename_i h;unfold qD yI;rw [List.find?_filter];congr 1;funext x;by_cases hx:x.path = p
  ·simp [atP,Zp,hx,h]
  ·simp [atP,hx]
theorem Kr : ∀ {l t:List Ent},ql yq t = true → (l.Pairwise fun a b => ¬ a.path = b.path) → ∀ p,qD (l.foldl xU t) p = match qD l p with|some x=>some x|none=>qD t p
 | [],t,_,_,p=>rfl
 | x :: l,t,hs,hd,p=>by
   have hd1:=List.pairwise_cons.1 hd;rw [List.foldl_cons,Kr (wn hs) hd1.2 p,YE hs];by_cases hp:p = x.path
   ·subst hp;have:qD l x.path = none:=zI.2 fun y hy e=>hd1.1 y hy e.symm
    rw [this];simp [qD,atP]
   ·have h2:qD (x :: l) p = qD l p:=by
     unfold qD;rw [List.find?_cons_of_neg];simp [atP];exact fun e=>hp e.symm
    rw [h2,if_neg hp]
theorem zm {p q:qb}:inB p q = true ↔ ∃ r,p = q ++ r ∧ (r = [] ∨ r.head? = some 47):=by
 unfold inB;rw [Bool.or_eq_true,decide_eq_true_eq,List.isPrefixOf_iff_prefix];constructor
 ·rintro (rfl|⟨s,h⟩)
  ·exact ⟨[],by simp,.inl rfl⟩
  ·exact ⟨47 :: s,by rw [← h];simp,.inr rfl⟩
 ·rintro ⟨r,rfl,rfl|h⟩
  ·exact .inl (by simp)
  ·cases r with
   | nil=>exact .inl (by simp)
   | cons c r =>
     simp at h;subst h;exact .inr ⟨r,by simp⟩
theorem Xd {p q r:qb} (h1:inB p q = true) (h2:inB q r = true):inB p r = true:=by
 obtain ⟨a,rfl,ha⟩:=zm.1 h1;obtain ⟨b,rfl,hb⟩:=zm.1 h2;refine zm.2 ⟨b ++ a,by simp,?_⟩
 cases b with
 | nil=>simpa using ha
 | cons c b=>right;simpa using hb
theorem qk6 {p q:qb} (h1:inB p q = true) (h2:inB q p = true):p = q:=by
 obtain ⟨a,h,_⟩:=zm.1 h1;obtain ⟨b,h',_⟩:=zm.1 h2
 have hl:a = []:=by
  have:=congrArg List.length h;have:=congrArg List.length h';simp at *;exact List.length_eq_zero_iff.1 (by omega)
 rw [h,hl];simp
theorem ZL {p q:qb}:inB p q = true ↔ qk q <+: qk p:=by rw [qhu,List.isPrefixOf_iff_prefix]
end Go.Proofs.YtgcncinnlmjgdaaGreatDoor
namespace Go.Ab
theorem qoC {C:Cx} {ts:List (Nat × AV)} {hs:List (Nat × HB)} {nx:Nat} (i n:Nat) {off len:Nat} {rows:List (List AV)} (hi:qm ts i = .os n off len) (hn:qh hs n = .fz rows) (hl:off + len ≤ rows.length):Red C ⟨ts,hs,nx⟩ ⟨(i,.sl false ((rows.drop off).take len)) :: ts,hs,nx⟩:=by
 intro B a w hB ⟨g1,g2,F,ρ,hp,g4⟩;refine ⟨g1,g2,F,ρ, { kept:=hp.kept,agree:=hp.agree,grow:=hp.grow,fresh:=hp.fresh,names:=hp.names,dom:=hp.dom,own:=hp.own,new:=hp.new,sep:=hp.sep },fun m=>?_⟩;show M F ρ _ (qm ((i,_) :: ts) m);rw [Qi];by_cases him:i = m
 ·subst him;rw [if_pos rfl];have h1:M F ρ _ (qm ts i):=g4 i;rw [hi] at h1;have h2:OwnAt F ρ w n (qh hs n):=hp.own n
  exact qfj (L:=[]) (rh:=[n]) (h:=qh hs) hn (by simp) hl F ρ ρ w _ (fun m hm=>by obtain rfl:=List.mem_singleton.1 hm;exact h2) (fun a b hm c hc=>by
   rcases hm with h|h
   ·obtain rfl:=h.2;exact hc
   ·cases h) h1
 ·rw [if_neg him];exact g4 m
end Go.Ab
namespace Go.Proofs.YtgcncinnlmjgdaaGreatDoor
open Go.Ab Go.RowKit
attribute [local irreducible] Awp j9 jr ye Red qz Go.Ab.Fin qf Rz wz jF jU ResOk yA j1 xR qX
theorem Yg {t:List Ent} (h:jv t = 0):t.length ≤ 60 ∧ (∀ x,x ∈ t → xA x = 0) ∧ ql yq t = true ∧ ∀ x,x ∈ t → xW t x = 0:=by
 unfold jv at h;split at h
 ·exact absurd h (by decide)
 ·split at h
  ·split at h
   ·split at h
    ·exact absurd h (by decide)
    ·split at h
     ·exact absurd h (by decide)
     ·rename_i h1 h2 h3 h4 h5;refine ⟨by omega,jA.1 h2,h3,fun x hx=>?_⟩;have h6:(t.any fun x=>decide (¬ xW t x = 0)) = false:=by simpa using h5
      rw [List.any_eq_false] at h6;simpa using h6 x hx
   ·exact absurd h (by decide)
  ·contradiction
theorem x9 {x:Ent} (h:xA x = 0):qA x.path = 0 ∧ ¬ (x.fold = true ∧ ¬ x.text = []) ∧ x.text.length ≤ 300 ∧ wN x.ver = true:=by
 unfold xA at h;split at h
 ·split at h
  ·exact absurd h (by decide)
  ·split at h
   ·exact absurd h (by decide)
   ·split at h
    ·exact ⟨by assumption,by assumption,by omega,by assumption⟩
    ·exact absurd h (by decide)
 ·contradiction
theorem RightE.of {t:List Ent} (h:jv t = 0):RightE t:=by
 obtain ⟨h1,h2,h3,h4⟩:=Yg h;exact ⟨h3,fun x hx=>(x9 (h2 x hx)).1,by omega⟩
end Go.Proofs.YtgcncinnlmjgdaaGreatDoor
namespace Go.Proofs.YtgcncinnlmjgdaaGreatDoor
open Go.Op
structure Right (t:List Ent):Prop where
 len:t.length ≤ 60
 ent : ∀ x,x ∈ t → xA x = 0
 rise:ql yq t = true
 par : ∀ x,x ∈ t → yX t (qM x.path) = 0
theorem JA {t:List Ent}:jv t = 0 ↔ Right t:=by
 constructor
 ·intro h;obtain ⟨h1,h2,h3,h4⟩:=Yg h;exact ⟨h1,h2,h3,h4⟩
 ·intro h;have h1:¬ 60 < t.length:=by have:=h.len;omega
  have h2:t.any (fun x=>decide (xW t x = 5)) = false:=by
   rw [List.any_eq_false];intro x hx;have:xW t x = 0:=h.par x hx;simp [this]
  have h3:t.any (fun x=>decide (¬ xW t x = 0)) = false:=by
   rw [List.any_eq_false];intro x hx;have:xW t x = 0:=h.par x hx;simp [this]
  unfold jv;rw [if_neg h1,if_pos (jA.2 h.ent),if_pos h.rise,h2,h3];rfl
theorem xe {t:List Ent} {q:qb}:yX t q = 0 ↔ q = [] ∨ ∃ y,qD t q = some y ∧ y.fold = true:=by
 unfold yX qD
 by_cases hq:q = []
 ·simp [hq]
 ·rw [if_neg hq]
  cases h:t.find? (atP q) with
  | none=>simp [hq]
  | some x=>cases hf:x.fold<;>simp [hq,hf]
theorem wu {p:qb} (h:qA p = 0) : ∀ n,n ∈ qk p → n ≠ []:=fun n hn e=>by
 have:=(Qa.1 h).1 n hn;rw [e,qfQ] at this;cases this
theorem Z0 {p:qb} (h:(qk p).dropLast ≠ []):qk (qM p) = (qk p).dropLast:=by
 obtain ⟨h1,h2⟩:=Z6 p;rw [← h2];exact XZ h fun n hn=>VW p n (List.dropLast_subset _ hn)
theorem qm9 {p q:qb} (hp:qA p = 0) (hi:inB p q = true) (hne:¬ q = p):¬ qM p = [] ∧ inB (qM p) q = true ∧ (qk (qM p)).length < (qk p).length:=by
 have hpre:=ZL.1 hi;obtain ⟨s,hs⟩:=hpre
 have hsn:s ≠ []:=fun e=>hne (by
  rw [e,List.append_nil] at hs
  rw [← xq q,hs,xq])
 have hdl:(qk p).dropLast = qk q ++ s.dropLast:=by rw [← hs,List.dropLast_append_of_ne_nil hsn]
 have hdn:(qk p).dropLast ≠ []:=by
  rw [hdl];intro e;exact xS q (List.append_eq_nil_iff.1 e).1
 have hpn:=Z0 hdn;refine ⟨fun e=>?_,?_,?_⟩
 ·have hm:([]:qb) ∈ qk (qM p):=by rw [e];simp [qk]
  rw [hpn] at hm;exact wu hp [] (List.dropLast_subset _ hm) rfl
 ·rw [ZL,hpn,hdl];exact List.prefix_append _ _
 ·rw [hpn,List.length_dropLast];have:=names_pos' p;omega
where names_pos' (p:qb):0 < (qk p).length:=List.length_pos_iff.2 (xS p)
theorem qow {p:qb} (hp:qA p = 0):¬ qM p = p:=fun e=>by
 obtain ⟨h1,h2⟩:=Z6 p;have h3:(qk p).dropLast ≠ [] ∨ (qk p).dropLast = []:=(Decidable.em _).symm;rcases h3 with h3|h3
 ·have:=Z0 h3;rw [e] at this;have hl:=congrArg List.length this;rw [List.length_dropLast] at hl;have:=List.length_pos_iff.2 (xS p);omega
 ·rw [h3] at h2;have:p = []:=by rw [← e, ← h2];rfl
  subst this;exact wu hp [] (by simp [qk]) rfl
theorem qf8 {p:qb} (hp:qA p = 0) (hne:¬ qM p = []):inB p (qM p) = true:=by
 obtain ⟨h1,h2⟩:=Z6 p;have hdn:(qk p).dropLast ≠ []:=fun e=>hne (by rw [← h2,e];rfl)
 rw [ZL,Z0 hdn];exact List.dropLast_prefix _
theorem anc {t:List Ent} (h:Right t) : ∀ (n:Nat) (x:Ent),x ∈ t → (qk x.path).length = n → ∀ q,inB x.path q = true → ¬ q = x.path → ∃ y,qD t q = some y ∧ y.fold = true:=by
 intro n
 induction n using Nat.strongRecOn with
 | _ n ih =>
   intro x hx hn q hi hne;have hpe:=(x9 (h.ent x hx)).1;obtain ⟨h1,h2,h3⟩:=qm9 hpe hi hne
   rcases xe.1 (h.par x hx) with h4|⟨y,h4,h5⟩
   ·exact absurd h4 h1
   ·obtain ⟨h6,h7⟩:=yZ h4;by_cases hq:q = qM x.path
    ·subst hq;exact ⟨y,h4,h5⟩
    ·exact ih (qk y.path).length (by rw [h7];omega) y h6 rfl q (by rw [h7];exact h2) (by rw [h7];exact hq)
theorem qm4 {t:List Ent} (h:Right t) {q p:qb} (hq:qD t q = none) (hi:inB p q = true):qD t p = none:=by
 cases hl:qD t p with
 | none=>rfl
 | some x =>
   obtain ⟨h1,h2⟩:=yZ hl;by_cases e:q = p
   ·subst e;rw [hq] at hl;cases hl
   ·obtain ⟨y,h3,_⟩:=anc h _ x h1 rfl q (by rw [h2];exact hi) (by rw [h2];exact e);rw [hq] at h3;cases h3
theorem qaV {u:List Ent} (hs:ql yq u = true) (hl:u.length ≤ 60) (h : ∀ p x,qD u p = some x → xA x = 0 ∧ (qM p = [] ∨ ∃ y,qD u (qM p) = some y ∧ y.fold = true)):Right u :=
 ⟨hl,fun x hx=>(h _ x (WV hs hx)).1,hs,fun x hx=>xe.2 (h _ x (WV hs hx)).2⟩
theorem qld {t:List Ent} {c:Chg} (h:zv t c = 0):yX t (qM (xB c)) = 0 ∧ QE t c = 0 ∧ YI t c = 0 ∧ JF t c = 0:=by
 unfold zv at h;split at h
 ·contradiction
 ·split at h
  ·contradiction
  ·split at h
   ·contradiction
   ·exact ⟨by omega,by omega,by omega,h⟩
theorem qlt {t:List Ent} {c:Chg} {v:Int} (h:Qb t c v = 0):xz c = 0 ∧ zv t c = 0 ∧ xG t c v = 0:=by
 unfold Qb at h;split at h
 ·contradiction
 ·split at h
  ·contradiction
  ·exact ⟨by omega,by omega,h⟩
def Vn (c:Chg) (p:qb):qb:=c.path ++ p.drop c.to.length
theorem qg8 {c:Chg} {p:qb} (h:inB p c.to = true) : ∃ r,p = c.to ++ r ∧ Vn c p = c.path ++ r ∧ inB (Vn c p) c.path = true ∧ (r = [] ∨ r.head? = some 47):=by
 obtain ⟨r,rfl,hr⟩:=zm.1 h;have hb:Vn c (c.to ++ r) = c.path ++ r:=by simp [Vn]
 exact ⟨r,rfl,hb,by rw [hb];exact zm.2 ⟨r,rfl,hr⟩,hr⟩
theorem WL {t:List Ent} {c:Chg} {v:Int} {y:Ent} (h:y ∈ jO t c v) : ∃ x r,x ∈ t ∧ x.path = c.path ++ r ∧ (r = [] ∨ r.head? = some 47) ∧ y = vb c v x ∧ y.path = c.to ++ r:=by
 obtain ⟨x,hx,rfl⟩:=List.mem_map.1 h;obtain ⟨hx1,hx2⟩:=List.mem_filter.1 hx;obtain ⟨r,hr,hr2⟩:=zm.1 hx2;exact ⟨x,r,hx1,hr,hr2,rfl,by simp [vb,hr]⟩
theorem qiW {t:List Ent} {c:Chg} {v:Int} (hs:ql yq t = true) (p:qb):qD (jO t c v) p = if inB p c.to = true then (qD t (Vn c p)).map (vb c v) else none:=by
 split
 ·rename_i h;obtain ⟨r,rfl,hb,hbi,hr⟩:=qg8 (c:=c) h;rw [hb] at hbi ⊢
  cases hl:qD t (c.path ++ r) with
  | none =>
    rw [Option.map_none,zI];intro y hy e;obtain ⟨x,r',h1,h2,_,_,h3⟩:=WL hy;rw [h3] at e;have:=List.append_cancel_left e;subst this;exact zI.1 hl x h1 h2
  | some x =>
    obtain ⟨h1,h2⟩:=yZ hl;rw [Option.map_some];have hm:vb c v x ∈ jO t c v:=List.mem_map.2 ⟨x,List.mem_filter.2 ⟨h1,by unfold Zp;rw [h2];exact hbi⟩,rfl⟩;have hp:(vb c v x).path = c.to ++ r:=by simp [vb,h2]
    cases hf:qD (jO t c v) (c.to ++ r) with
    | none=>exact absurd hp (zI.1 hf _ hm)
    | some y =>
      obtain ⟨h3,h4⟩:=yZ hf;obtain ⟨x',r',h5,h6,_,h7,h8⟩:=WL h3;rw [h8] at h4;have:=List.append_cancel_left h4;subst this;rw [h7,qep hs h1 h5 (by rw [h2,h6])]
 ·rename_i h;rw [zI];intro y hy e;obtain ⟨x,r,h1,h2,h3,_,h4⟩:=WL hy;exact h (zm.2 ⟨r,by rw [← e,h4],h3⟩)
theorem qfI {t:List Ent} {c:Chg} {v:Int} (hs:ql yq t = true):(jO t c v).Pairwise fun a b => ¬ a.path = b.path:=by
 unfold jO;rw [List.pairwise_map];have h1:(t.filter (Zp c.path)).Pairwise (fun a b=>bytesLess a.path b.path = true):=(vQ.1 hs).sublist List.filter_sublist;refine h1.imp_of_mem fun {a b} ha hb hlt=>?_
 obtain ⟨r,hr,_⟩:=zm.1 (List.mem_filter.1 ha).2;obtain ⟨s,hs',_⟩:=zm.1 (List.mem_filter.1 hb).2;intro e;simp only [vb,hr,hs',List.drop_left] at e;have:=List.append_cancel_left e;rw [hr,hs',this,zp] at hlt;cases hlt
theorem qiX {t:List Ent} {c:Chg} {v:Int} (h:Right t) (hk:c.kind = 3) (hto:qD t c.to = none) (p:qb):qD (jI t c v) p = if inB p c.to = true then (qD t (Vn c p)).map (vb c v) else if inB p c.path = true then none else qD t p:=by
 have hD:jI t c v = (jO t c v).foldl xU (yI (Zp c.path) t):=by simp [jI,hk]
 rw [hD,Kr (wX h.rise) (qfI h.rise),qiW h.rise,ZO];by_cases hi:inB p c.to = true
 ·rw [if_pos hi,if_pos hi]
  cases hl:qD t (Vn c p) with
  | some x=>rfl
  | none =>
    rw [Option.map_none];have:=qm4 h hto hi;simp [this]
 ·rw [if_neg hi,if_neg hi]
theorem qm8 {a r:qb} : ∃ s,(∀ b:qb,qM (b ++ 47 :: r) = b ++ s) ∧ (s = [] ∨ s.head? = some 47):=by
 rcases Zg (c:=47) r with h|⟨r1,r2,rfl,h⟩
 ·exact ⟨[],fun b=>by rw [(qbB h).1];simp,.inl rfl⟩
 ·refine ⟨47 :: r1,fun b=>?_,.inr rfl⟩;have:=(qbB (a:=b ++ 47 :: r1) h).1;rw [← this];simp
theorem qkm {c:Chg} (h:xz c = 0):c.text.length ≤ 300:=by
 have:=(zz h).2.2.2.2;unfold wU at this;split at this
 ·exact absurd this (by decide)
 ·split at this
  ·exact absurd this (by decide)
  ·omega
theorem qfv {p:qb} {f:Bool} {s:qb} {v:Int} (h1:qA p = 0) (h2:f = true → s = []) (h3:s.length ≤ 300) (h4:wN v = true):xA ⟨p,f,s,v⟩ = 0:=by
 unfold xA;simp only;rw [if_pos h1,if_neg (fun e=>e.2 (h2 e.1)),if_neg (by omega),if_pos h4]
theorem qft {t:List Ent} {c:Chg} {v:Int} (h:Right t) (hv:wN v = true) (hr:Qb t c v = 0):Right (jI t c v):=by
 obtain ⟨hc0,hm0,hd0⟩:=qlt hr;obtain ⟨k1,k2,hpe,hte, -⟩:=zz hc0;obtain ⟨hf,hi,hmv, -⟩:=qld hm0;obtain ⟨hb,h60⟩:=qhi hd0;have hs:=Vu (c:=c) (v:=v) h.rise;have htx:=qkm hc0;refine qaV hs h60 fun p x hx=>?_
 by_cases e1:c.kind = 1
 ·have hD:jI t c v = xU t ⟨c.path,true,[],v⟩:=by simp [jI,e1]
  have hg:xB c = c.path:=by simp [xB,e1]
  rw [hg] at hf;rw [hD,YE h.rise] at hx
  have key : ∀ q,(∃ y,qD t q = some y ∧ y.fold = true) → ∃ y,qD (jI t c v) q = some y ∧ y.fold = true:=fun q ⟨y,h1,h2⟩=>by
   rw [hD,YE h.rise];split
   ·exact ⟨_,rfl,rfl⟩
   ·exact ⟨y,h1,h2⟩
  split at hx
  ·rename_i hp;injection hx with hx;subst hx;subst hp;exact ⟨qfv hpe (fun _=>rfl) (by simp) hv,(xe.1 hf).imp id (key _)⟩
  ·obtain ⟨h1,h2⟩:=yZ hx;refine ⟨h.ent x h1,?_⟩;have:=xe.1 (h.par x h1);rw [h2] at this;exact this.imp id (key _)
 ·by_cases e2:c.kind = 2
  ·have hD:jI t c v = xU t ⟨c.path,false,c.text,v⟩:=by simp [jI,e2]
   have hg:xB c = c.path:=by simp [xB,e2]
   rw [hg] at hf;rw [hD,YE h.rise] at hx
   have hfa : ∀ y,qD t c.path = some y → y.fold = false:=fun y hy=>by
    unfold QE at hi;rw [if_neg e1,if_pos e2] at hi;unfold XS at hi;rw [show t.find? (atP c.path) = some y from hy] at hi
    cases hyf:y.fold with
    | false=>rfl
    | true=>simp [hyf] at hi
   have key : ∀ q,(∃ y,qD t q = some y ∧ y.fold = true) → ∃ y,qD (jI t c v) q = some y ∧ y.fold = true:=fun q ⟨y,h1,h2⟩=>by
    rw [hD,YE h.rise];split
    ·rename_i e;simp only at e;rw [e] at h1;rw [hfa y h1] at h2;cases h2
    ·exact ⟨y,h1,h2⟩
   split at hx
   ·rename_i hp;injection hx with hx;subst hx;subst hp;exact ⟨qfv hpe (fun e=>by cases e) htx hv,(xe.1 hf).imp id (key _)⟩
   ·obtain ⟨h1,h2⟩:=yZ hx;refine ⟨h.ent x h1,?_⟩;have:=xe.1 (h.par x h1);rw [h2] at this;exact this.imp id (key _)
  ·by_cases e4:c.kind = 4
   ·have hD:jI t c v = yI (Zp c.path) t:=by simp [jI,e4]
    rw [hD,ZO] at hx;split at hx
    ·cases hx
    ·rename_i hin;obtain ⟨h1,h2⟩:=yZ hx;refine ⟨h.ent x h1,?_⟩;have hxe:=(x9 (h.ent x h1)).1;have:=xe.1 (h.par x h1);rw [h2] at this hxe
     rcases this with h3|⟨y,h3,h4⟩
     ·exact .inl h3
     ·refine .inr ⟨y,?_,h4⟩;rw [hD,ZO,if_neg]
      ·exact h3
      ·intro h5
       have hne:¬ qM p = []:=fun e=>by
        rw [e] at h3;obtain ⟨h6,h7⟩:=yZ h3;have:=(x9 (h.ent y h6)).1;rw [h7] at this;exact wu this [] (by simp [qk]) rfl
       exact hin (Xd (qf8 hxe hne) h5)
   ·have e3:c.kind = 3:=by omega
    have hpt:=hte e3;have hg:xB c = c.to:=by simp [xB,e3]
    rw [hg] at hf
    have hM:YI t c = if inB c.to c.path = true then 3 else if vB t c.to = true then 6 else 0:=by unfold YI;rw [if_pos e3]
    rw [hmv] at hM
    have hin0:inB c.to c.path = false:=by
     cases h0:inB c.to c.path with
     | true=>rw [h0] at hM;simp at hM
     | false=>rfl
    rw [hin0,if_neg (by decide)] at hM
    have hhit:vB t c.to = false:=by
     cases h0:vB t c.to with
     | true=>rw [h0] at hM;simp at hM
     | false=>rfl
    have hto:qD t c.to = none:=(Xc hhit).1;have hlm:=qiX (v:=v) h e3 hto;rw [hlm] at hx
    have nonil : ∀ q y,qD t q = some y → ¬ q = []:=fun q y hy e=>by
     obtain ⟨h6,h7⟩:=yZ hy;have:=(x9 (h.ent y h6)).1;rw [h7,e] at this;exact wu this [] (by simp [qk]) rfl
    split at hx
    ·rename_i hi2;obtain ⟨r,rfl,hb2,hbi,hr2⟩:=qg8 (c:=c) hi2;rw [hb2] at hx hbi;obtain ⟨x0,hx0,rfl⟩:=Option.map_eq_some_iff.1 hx;obtain ⟨h1,h2⟩:=yZ hx0;have he0:=x9 (h.ent x0 h1);refine ⟨?_,?_⟩
     ·have hpm:qA (vb c v x0).path = 0:=by
       refine VV he0.1 hpe hpt (by rw [h2];exact hbi) ?_;simp only [va,e3,decide_true,Bool.true_and,List.any_eq_false] at hb;simpa using hb x0 (List.mem_filter.2 ⟨h1,by unfold Zp;rw [h2];exact hbi⟩)
      refine qfv hpm (fun e=>?_) he0.2.2.1 ?_
      ·cases hs0:x0.text with
       | nil=>rfl
       | cons a s=>exact absurd ⟨e,by rw [hs0];simp⟩ he0.2.1
      ·split
       ·exact hv
       ·exact he0.2.2.2
     ·rcases hr2 with rfl|hr2
      ·rw [List.append_nil]
       rcases xe.1 hf with h3|⟨y,h3,h4⟩
       ·exact .inl h3
       ·refine .inr ⟨y,?_,h4⟩;have hne:=nonil _ y h3;have hpi:=qf8 hpt hne;rw [hlm,if_neg,if_neg]
        ·exact h3
        ·intro h5;have:=Xd hpi h5;rw [hin0] at this;cases this
        ·intro h5;exact qow hpt (qk6 h5 hpi)
      ·cases r with
       | nil=>cases hr2
       | cons a r =>
         simp at hr2;subst hr2;obtain ⟨s,hs1,hs2⟩:=qm8 (a:=c.to) (r:=r);have hp0:=xe.1 (h.par x0 h1);rw [h2,hs1 c.path] at hp0
         rcases hp0 with h3|⟨y,h3,h4⟩
         ·have:c.path = []:=(List.append_eq_nil_iff.1 h3).1;rw [this] at hpe;exact absurd rfl (wu hpe [] (by simp [qk]))
         ·refine .inr ⟨vb c v y,?_,h4⟩;have hin3:inB (c.to ++ s) c.to = true:=zm.2 ⟨s,rfl,hs2⟩;rw [hs1 c.to,hlm,if_pos hin3,show Vn c (c.to ++ s) = c.path ++ s from by simp [Vn],h3];rfl
    ·rename_i hi2;split at hx
     ·cases hx
     ·rename_i hi3;obtain ⟨h1,h2⟩:=yZ hx;refine ⟨h.ent x h1,?_⟩;have hxe:=(x9 (h.ent x h1)).1;have:=xe.1 (h.par x h1);rw [h2] at this hxe
      rcases this with h3|⟨y,h3,h4⟩
      ·exact .inl h3
      ·have hpi:=qf8 hxe (nonil _ y h3);refine .inr ⟨y,?_,h4⟩;rw [hlm,if_neg (fun h5=>hi2 (Xd hpi h5)),if_neg (fun h5=>hi3 (Xd hpi h5))];exact h3
theorem Right.big {t:List Ent} (h:Right t):EBig t:=⟨fun x hx=>by
 have h1:=x9 (h.ent x hx);have h2:=xf h1.1
 exact ⟨by omega,by omega⟩,by have:=h.len;omega⟩
end Go.Proofs.YtgcncinnlmjgdaaGreatDoor
namespace Go.Proofs.YtgcncinnlmjgdaaGreatDoor
open Go.Ab Go.RowKit
attribute [local irreducible] Awp j9 jr ye Red qz Go.Ab.Fin qf Rz wz jF jU ResOk yA j1 xR qX
theorem qmE:qiG C.P 103 = some [1,2,1,0]:=by kernel_rfl
theorem qjf (a b:Ent):JB [1,2,1,0] a.row b.row = some (decide (a = b)):=by
 obtain ⟨a1,a2,a3,a4⟩:=a;obtain ⟨b1,b2,b3,b4⟩:=b;simp only [Ent.row,JB,JR,str,Ent.mk.injEq,if_true,Option.some.injEq];by_cases h1:a1 = b1<;>by_cases h2:a2 = b2<;>by_cases h3:a3 = b3<;>by_cases h4:a4 = b4<;>simp [h1,h2,h3,h4]
theorem Z8 {α:Type} {a b:List α} {i:Nat} (h1:i < a.length) (h2:i < b.length) (h:a.take i = b.take i) (h3:a[i] = b[i]):a.take (i + 1) = b.take (i + 1):=by
 rw [List.take_succ_eq_append_getElem h1,List.take_succ_eq_append_getElem h2,h,h3]
theorem Xz (a b:List Ent) (ha:a.length ≤ 1000000000) (hb:b.length ≤ 1000000000):jN C.P 90 [qU a,qU b] (.v (.bool (decide (a = b)))):=by
 have hma:(a.map Ent.row).length = a.length:=List.length_map ..;have hmb:(b.map Ent.row).length = b.length:=List.length_map ..;refine qJ 0 ?_
 repeat' (first|refine qg ?_|fail|(refine xsS ?_ ?_;all_goals first|exact False.elim|intro hp hc)|refine xsA ?_ ?_)
 ·apply qR;rfl;have hne:¬ a = b:=fun e=>by subst e;simp at *
  simp [hne]
 have hab:a.length = b.length:=by simp at *;omega
 refine Zq (ts:=[(0,qU a),(1,qU b),(5,.v (.int .i64 ((0:Nat):Int)))]) ?_;refine qB (fun n σ => ∃ i:Nat,i ≤ a.length ∧ n = a.length - i ∧ (a.take i = b.take i) ∧ σ = ⟨[(0,qU a),(1,qU b),(5,.v (.int .i64 (i:Int)))],[],C.nh⟩) a.length ⟨0,Nat.zero_le _,rfl,rfl,rfl⟩ ?_;rintro n σ ⟨i,hi,rfl,hsofar,rfl⟩;by_cases hlt:i < a.length
 ·have hlt2:i < b.length:=by omega
  have hr:=qK (f:=Ent.row) hlt;have hr':=qK (f:=Ent.row) hlt2;have hnx:=Z8 hlt hlt2 hsofar
  repeat' (first|refine qg ?_|(first|(apply qa;apply VC;rfl;rfl;exact qmE;exact qjf _ _;(first|exact .inl ⟨rfl,rfl⟩|exact .inr ⟨rfl,rfl⟩);exact nle rfl))|(refine xsS ?_ ?_;all_goals first|exact False.elim|intro hp hc)|refine xsA ?_ ?_)
  all_goals try (exfalso;omega)
  ·apply qR;rfl;have hne:¬ a = b:=fun e=>by subst e;simp at *
   simp [hne]
  ·refine ⟨a.length - (i + 1),_,by omega,xsM (ts:=[(0,qU a),(1,qU b),(5,.v (.int .i64 ((i + 1:Nat):Int)))]),i + 1,by omega,rfl,(hnx (by simp_all)),rfl⟩
 obtain rfl:i = a.length:=by omega
 have he:a = b:=by rw [List.take_length] at hsofar;rw [hsofar,hab,List.take_length]
 repeat' (first|refine qg ?_|fail|(refine xsS ?_ ?_;all_goals first|exact False.elim|intro hp hc)|refine xsA ?_ ?_)
 all_goals try (exfalso;omega)
 apply qR;rfl;simp [he]
end Go.Proofs.YtgcncinnlmjgdaaGreatDoor
