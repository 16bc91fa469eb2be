import Derived.Test.YtiljlcgmcmjcoaaGreatDoorMz11
set_option linter.unusedSimpArgs false
set_option linter.unnecessarySimpa false
set_option linter.unusedVariables false
set_option maxHeartbeats 1000000
namespace Go.Proofs.YtiljlcgmcmjcoaaGreatDoor
open Go.Ab Go.RowKit
set_option maxRecDepth 10000
attribute [local irreducible] Awp ye ji qQ Red qF Go.Ab.Fin qo Rz xx qG qO ResOk jK je jX qW
structure RightE (t:List Ent):Prop where
 rise:qv yt t = true
 paths : ∀ x,x ∈ t → qM x.path = 0
 few:t.length ≤ 400000
def kE (t:List Ent) (c:Chg) (v:Int):Int:=if ¬ yI c = 0 then yI c else if ¬ zY t c = 0 then zY t c else yw t c v
def KF (t:List Ent) (c:Chg) (v:Int):List Ent:=if kE t c v = 0 then ju t c v else []
theorem yS {c:Chg} (h:yI c = 0):1 ≤ c.kind ∧ c.kind ≤ 4 ∧ qM c.path = 0 ∧ (c.kind = 3 → qM c.to = 0) ∧ kS c = 0:=by
 unfold yI at h
 split at h
 ·exact absurd h (by decide)
 ·split at h
  ·contradiction
  ·rename_i h1 h2
   split at h
   ·rename_i h3;exact absurd h h3.2
   ·rename_i h3
    refine ⟨by omega,by omega,by simpa using h2,fun h4=>?_,h⟩
    have h5:=fun e=>h3 ⟨h4,e⟩
    simpa using h5
theorem Z1 {t:List Ent} {x y:Ent} (h:y ∈ xg t x):y = x ∨ y ∈ t:=by
 unfold xg at h
 split at h
 ·rcases List.mem_append.1 h with h|h
  ·exact .inr (List.mem_of_mem_take h)
  ·rcases List.mem_append.1 h with h|h
   ·exact .inl (List.mem_singleton.1 h)
   ·exact .inr (List.mem_of_mem_drop h)
 ·rcases List.mem_append.1 h with h|h
  ·exact .inr (List.mem_of_mem_take h)
  ·rcases List.mem_append.1 h with h|h
   ·exact .inl (List.mem_singleton.1 h)
   ·exact .inr (List.mem_of_mem_drop h)
theorem ZK : ∀ {l t:List Ent} {y:Ent},y ∈ l.foldl xg t → y ∈ l ∨ y ∈ t
 | [],_,_,h => .inr h
 | x :: l,t,y,h=>by
   rcases ZK (l:=l) (t:=xg t x) h with h|h
   ·exact .inl (List.mem_cons_of_mem _ h)
   ·rcases Z1 h with rfl|h
    ·exact .inl (List.mem_cons_self ..)
    ·exact .inr h
theorem Xu {c:Chg} {v:Int} {x:Ent} (hx:qM x.path = 0) (h1:qM c.path = 0) (h2:qM c.to = 0) (hi:inB x.path c.path = true) (hg:yF (c.to ++ x.path.drop c.path.length) = false):qM (y8 c v x).path = 0:=by
 have hm:=JH hx h1 h2 hi
 rw [hg,if_neg (by decide)] at hm
 have:=(qce hm).2.1
 exact (xF.1 this).1
theorem W4 {t:List Ent} {c:Chg} {v:Int} (h:yw t c v = 0):y7 t c = false ∧ (ju t c v).length ≤ 60:=by
 unfold yw at h
 split at h
 ·exact absurd h (by decide)
 ·split at h
  ·exact absurd h (by decide)
  ·rename_i h1 h2
   exact ⟨by simpa using h1,by omega⟩
theorem qaK {t:List Ent} {c:Chg} {v:Int} (ht : ∀ x,x ∈ t → qM x.path = 0) (hce:yI c = 0) (hbad:y7 t c = false) : ∀ x,x ∈ ju t c v → qM x.path = 0:=by
 obtain ⟨k1,k2,hpe,hto, -⟩:=yS hce
 intro x hx
 unfold ju at hx
 split at hx
 ·rcases Z1 hx with rfl|h
  ·exact hpe
  ·exact ht x h
 ·split at hx
  ·rcases Z1 hx with rfl|h
   ·exact hpe
   ·exact ht x h
  ·split at hx
   ·exact ht x (List.mem_filter.1 hx).1
   ·have k3:c.kind = 3:=by omega
    rcases ZK hx with h|h
    ·obtain ⟨y,hy,rfl⟩:=List.mem_map.1 h
     obtain ⟨hy1,hy2⟩:=List.mem_filter.1 hy
     simp only [y7,k3,decide_true,Bool.true_and,List.any_eq_false] at hbad
     exact Xu (ht y hy1) hpe (hto k3) hy2 (by simpa using hbad y hy)
    ·exact ht x (List.mem_filter.1 h).1
theorem Xc {t:List Ent} {c:Chg} {v:Int} (hs:qv yt t = true):qv yt (ju t c v) = true:=by
 unfold ju
 split
 ·exact wb hs
 ·split
  ·exact wb hs
  ·split
   ·exact kw hs
   ·exact kV (kw hs)
theorem J0 (t:List Ent) (c:Chg) (v:Int):(ju t c v).length ≤ 2 * t.length + 1:=by
 have h1:=fun x=>qaM t x
 have h2:(yb (kr c.path) t).length ≤ t.length:=List.length_filter_le ..
 have h3:(jz t c v).length ≤ t.length:=by unfold jz;rw [List.length_map];exact List.length_filter_le ..
 have h4:=QZ (jz t c v) (yb (kr c.path) t)
 unfold ju
 split
 ·have:=h1 ⟨c.path,true,[],v⟩;omega
 ·split
  ·have:=h1 ⟨c.path,false,c.text,v⟩;omega
  ·split<;>omega
theorem RightE.done {t:List Ent} {c:Chg} {v:Int} (h:RightE t) (hr:kE t c v = 0):RightE (ju t c v):=by
 unfold kE at hr
 split at hr
 ·contradiction
 ·split at hr
  ·contradiction
  ·rename_i h1 h2
   obtain ⟨h3,h4⟩:=W4 hr
   exact ⟨Xc h.rise,qaK h.paths (by simpa using h1) h3,by omega⟩
theorem qiD (t:List Ent) (c:Chg) (v:Int) (h:RightE t) (hce:yI c = 0) (hbad:y7 t c = false) :
  qo C1.P 175 [.os 0 0 t.length,.agg c.row,.v (.int .i64 v)] [.own false 4 (t.map Ent.row)] (Wl (yw t c v) (ju t c v).length) [.dead,.own false 4 ((ju t c v).map Ent.row)]:=by
 obtain ⟨k1,k2,hpe,hto, -⟩:=yS hce
 have hf:=h.few
 have hl:=J0 t c v
 have hps:=jt hpe
 by_cases h1:c.kind = 1
 ·exact qg8 t c v (by omega) h.rise h1 (by omega)
 ·by_cases h2:c.kind = 2
  ·exact qh4 t c v (by omega) h.rise h2 (by omega)
  ·by_cases h4:c.kind = 4
   ·exact qhD t c v (by omega) h4 (by omega)
   ·have h3:c.kind = 3:=by omega
    exact qcv t c v hf h3 h.paths hpe (hto h3) hbad h.rise
theorem Xs {t:List Ent} {c:Chg} {v:Int} (h:¬ kE t c v = 0):KF t c v = []:=by unfold KF;rw [if_neg h]
theorem qip (t:List Ent) (c:Chg) (v:Int) (h:RightE t) (hcs:c.small):jO C.P 149 [qr t,.agg c.row,.v (.int .i64 v)] (.tup [qr (KF t c v),.v (.int .i64 (kE t c v))]):=by
 have hf:=h.few
 have h1:=qim c hcs
 have h2:=qiW t c (by omega) h.rise hcs
 have h3:=ZY t (by omega)
 have hR:kE t c v = if ¬ yI c = 0 then yI c else if ¬ zY t c = 0 then zY t c else yw t c v:=rfl
 have hbadL := @Xs t c v
 by_cases hce:yI c = 0
 ·by_cases hme:zY t c = 0
  ·have hR2:kE t c v = yw t c v:=by rw [hR,if_neg (by simp [hce]),if_neg (by simp [hme])]
   rw [hce] at h1
   rw [hme] at h2
   cases hb:y7 t c with
   | true =>
     obtain ⟨k1,k2,hpe,hto, -⟩:=yS hce
     have hk3:c.kind = 3:=by
      simp [y7] at hb;exact hb.1
     have hE:yw t c v = 2:=by simp [yw,hb]
     have hd:=qb6 t c v (by omega) hk3 h.paths hpe (hto hk3) hb
     rw [hE] at hR2
     rw [hbadL (by rw [hR2];decide),hR2]
     refine qa Tryz.func149 rfl _ Tryz.ntmps149 (Nat.le_of_ble_eq_true rfl) _ Tryz.results149 0 rfl rfl ?_
     repeat' (first|refine qe ?_|(first|refine xsF Tryz.func173 (h1 ..) ?_|refine xsF Tryz.func174 (h2 ..) ?_|(apply qN Tryz.func101 rfl rfl;intro hIsFn;refine yr ([]) hIsFn (h3 ..) ?_)|(apply qN Tryz.func175 rfl rfl;intro hIsFn;refine Qm ([1]) 1 hIsFn (hd ..) ?_))|((first|refine xsC ?_ ?_);all_goals (intro hc;have hp:=hc;try simp at hp;try (exfalso;omega)))|refine qp ?_ ?_)
     all_goals try (exfalso;omega)
     (exact j1 (rs:=[.tmp 6,.tmp 7]))
   | false =>
     have hd:=qiD t c v h hce hb
     by_cases hE:yw t c v = 0
     ·have hL:KF t c v = ju t c v:=by unfold KF;rw [if_pos (by rw [hR2,hE])]
      rw [hE] at hR2 hd
      rw [hL,hR2]
      generalize ju t c v = L at *
      have hd:qo C1.P 175 [.os 0 0 t.length,.agg c.row,.v (.int .i64 v)] [.own false 4 (t.map Ent.row)] (.tup [.os 1 0 L.length,.v (.int .i64 0)]) [.dead,.own false 4 (L.map Ent.row)]:=hd
      refine qa Tryz.func149 rfl _ Tryz.ntmps149 (Nat.le_of_ble_eq_true rfl) _ Tryz.results149 0 rfl rfl ?_
      repeat' (first|refine qe ?_|(first|refine xsF Tryz.func173 (h1 ..) ?_|refine xsF Tryz.func174 (h2 ..) ?_|(apply qN Tryz.func101 rfl rfl;intro hIsFn;refine yr ([]) hIsFn (h3 ..) ?_)|(apply qN Tryz.func175 rfl rfl;intro hIsFn;refine zP ([1]) 1 hIsFn (hd ..) ?_))|((first|refine xsC ?_ ?_);all_goals (intro hc;have hp:=hc;try simp at hp;try (exfalso;omega)))|refine qp ?_ ?_)
      all_goals try (exfalso;omega)
      (exact j1 (rs:=[.tmp 6,.tmp 7]))
     ·rw [hbadL (by rw [hR2];exact hE),hR2]
      generalize yw t c v = E at *
      generalize ju t c v = L at *
      have hd:qo C1.P 175 [.os 0 0 t.length,.agg c.row,.v (.int .i64 v)] [.own false 4 (t.map Ent.row)] (.tup [.sl true [],.v (.int .i64 E)]) [.dead,.own false 4 (L.map Ent.row)]:=by
       rw [Wl,if_neg hE] at hd;exact hd
      refine qa Tryz.func149 rfl _ Tryz.ntmps149 (Nat.le_of_ble_eq_true rfl) _ Tryz.results149 0 rfl rfl ?_
      repeat' (first|refine qe ?_|(first|refine xsF Tryz.func173 (h1 ..) ?_|refine xsF Tryz.func174 (h2 ..) ?_|(apply qN Tryz.func101 rfl rfl;intro hIsFn;refine yr ([]) hIsFn (h3 ..) ?_)|(apply qN Tryz.func175 rfl rfl;intro hIsFn;refine zP ([1]) 1 hIsFn (hd ..) ?_))|((first|refine xsC ?_ ?_);all_goals (intro hc;have hp:=hc;try simp at hp;try (exfalso;omega)))|refine qp ?_ ?_)
      all_goals try (exfalso;omega)
      (exact j1 (rs:=[.tmp 6,.tmp 7]))
  ·have hR2:kE t c v = zY t c:=by rw [hR,if_neg (by simp [hce]),if_pos hme]
   rw [hce] at h1
   rw [hbadL (by rw [hR2];exact hme),hR2]
   generalize zY t c = E at *
   refine qa Tryz.func149 rfl _ Tryz.ntmps149 (Nat.le_of_ble_eq_true rfl) _ Tryz.results149 0 rfl rfl ?_
   repeat' (first|refine qe ?_|(first|refine xsF Tryz.func173 (h1 ..) ?_|refine xsF Tryz.func174 (h2 ..) ?_)|((first|refine xsC ?_ ?_);all_goals (intro hc;have hp:=hc;try simp at hp;try (exfalso;omega)))|refine qp ?_ ?_)
   all_goals try (exfalso;omega)
   (exact j1 (rs:=[.tmp 6,.tmp 7]))
 ·have hR2:kE t c v = yI c:=by rw [hR,if_pos hce]
  rw [hbadL (by rw [hR2];exact hce),hR2]
  generalize yI c = E at *
  refine qa Tryz.func149 rfl _ Tryz.ntmps149 (Nat.le_of_ble_eq_true rfl) _ Tryz.results149 0 rfl rfl ?_
  repeat' (first|refine qe ?_|(first|refine xsF Tryz.func173 (h1 ..) ?_)|((first|refine xsC ?_ ?_);all_goals (intro hc;have hp:=hc;try simp at hp;try (exfalso;omega)))|refine qp ?_ ?_)
  all_goals try (exfalso;omega)
  (exact j1 (rs:=[.tmp 6,.tmp 7]))
end Go.Proofs.YtiljlcgmcmjcoaaGreatDoor
set_option linter.unusedSimpArgs false
set_option linter.unnecessarySimpa false
set_option linter.unusedVariables false
namespace Go.Proofs.YtiljlcgmcmjcoaaGreatDoor
open Go.Op
def jw (t:List Ent) (p:qC):Option Ent:=t.find? (atP p)
theorem xP {t:List Ent} {p:qC} {x:Ent} (h:jw t p = some x):x ∈ t ∧ x.path = p:=by
 have h1:=List.mem_of_find?_eq_some h
 have h2:=List.find?_some h
 exact ⟨h1,by simpa [atP] using h2⟩
theorem ka {t:List Ent} {p:qC}:jw t p = none ↔ ∀ x,x ∈ t → ¬ x.path = p:=by
 unfold jw
 rw [List.find?_eq_none]
 simp [atP]
theorem qb4 {t:List Ent} (hs:qv yt t = true) {x y:Ent} (hx:x ∈ t) (hy:y ∈ t) (h:x.path = y.path):x = y:=by
 obtain ⟨i,hi,rfl⟩:=List.getElem_of_mem hx
 obtain ⟨j,hj,rfl⟩:=List.getElem_of_mem hy
 rcases Nat.lt_trichotomy i j with h1|h1|h1
 ·have:=zW hs i j hi hj h1
  rw [h,xp] at this;cases this
 ·subst h1;rfl
 ·have:=zW hs j i hj hi h1
  rw [h,xp] at this;cases this
theorem Z4 {t:List Ent} (hs:qv yt t = true) {x:Ent} (hx:x ∈ t):jw t x.path = some x:=by
 cases h:jw t x.path with
 | none=>exact absurd rfl (ka.1 h x hx)
 | some y =>
   obtain ⟨h1,h2⟩:=xP h
   rw [qb4 hs h1 hx h2]
theorem qbf {t:List Ent} (hs:qv yt t = true) {p:qC} {x:Ent}:jw t p = some x ↔ x ∈ t ∧ x.path = p :=
 ⟨xP,fun ⟨h1,h2⟩=>h2 ▸ Z4 hs h1⟩
theorem WN {t:List Ent} {x:Ent} (hs:qv yt t = true) (y:Ent):y ∈ xg t x ↔ y = x ∨ (y ∈ t ∧ ¬ y.path = x.path):=by
 obtain ⟨A,M,Z,h,hp,hA,hZ,hM⟩:=qaw x.path (zf.1 hs)
 rw [YL h hp hM,h]
 have hA' : ∀ a,a ∈ A → ¬ a.path = x.path:=fun a ha=>Zy (hA a ha)
 have hZ' : ∀ a,a ∈ Z → ¬ a.path = x.path:=fun a ha e=>Zy (hZ a ha) e.symm
 simp only [List.mem_append,List.mem_singleton]
 constructor
 ·rintro (h1|h1|h1)
  ·exact .inr ⟨.inl h1,hA' y h1⟩
  ·exact .inl h1
  ·exact .inr ⟨.inr (.inr h1),hZ' y h1⟩
 ·rintro (h1|⟨h1|h1|h1,h2⟩)
  ·exact .inr (.inl h1)
  ·exact .inl h1
  ·rcases hM with ⟨_,z,rfl,hz⟩|⟨_,rfl⟩
   ·rw [List.mem_singleton.1 h1] at h2;exact absurd hz h2
   ·cases h1
  ·exact .inr (.inr h1)
theorem JP {t:List Ent} {x:Ent} (hs:qv yt t = true) (p:qC):jw (xg t x) p = if p = x.path then some x else jw t p:=by
 have hr:=wb (x:=x) hs
 split
 ·rename_i h
  rw [qbf hr,WN hs]
  exact ⟨.inl rfl,h.symm⟩
 ·rename_i h
  cases hl:jw t p with
  | none =>
    rw [ka] at hl ⊢
    intro y hy
    rcases (WN hs y).1 hy with rfl|⟨h1,_⟩
    ·exact fun e=>h e.symm
    ·exact hl y h1
  | some y =>
    obtain ⟨h1,h2⟩:=xP hl
    rw [qbf hr,WN hs]
    exact ⟨.inr ⟨h1,by rw [h2];exact h⟩,h2⟩
theorem XF (t:List Ent) (q p:qC):jw (yb (kr q) t) p = if inB p q = true then none else jw t p:=by
 split
 ·rename_i h
  rw [ka]
  intro x hx
  have:=(List.mem_filter.1 hx).2
  intro e
  simp only [kr,e,h] at this
  exact absurd this (by decide)
 ·rename_i h
  unfold jw yb
  rw [List.find?_filter]
  congr 1
  funext x
  by_cases hx:x.path = p
  ·simp [atP,kr,hx,h]
  ·simp [atP,hx]
theorem VJ : ∀ {l t:List Ent},qv yt t = true → (l.Pairwise fun a b => ¬ a.path = b.path) → ∀ p,jw (l.foldl xg t) p = match jw l p with|some x=>some x|none=>jw t p
 | [],t,_,_,p=>rfl
 | x :: l,t,hs,hd,p=>by
   have hd1:=List.pairwise_cons.1 hd
   rw [List.foldl_cons,VJ (wb hs) hd1.2 p,JP hs]
   by_cases hp:p = x.path
   ·subst hp
    have:jw l x.path = none:=ka.2 fun y hy e=>hd1.1 y hy e.symm
    rw [this]
    simp [jw,atP]
   ·have h2:jw (x :: l) p = jw l p:=by
     unfold jw
     rw [List.find?_cons_of_neg]
     simp [atP];exact fun e=>hp e.symm
    rw [h2,if_neg hp]
theorem zR {p q:qC}:inB p q = true ↔ ∃ r,p = q ++ r ∧ (r = [] ∨ r.head? = some 47):=by
 unfold inB
 rw [Bool.or_eq_true,decide_eq_true_eq,List.isPrefixOf_iff_prefix]
 constructor
 ·rintro (rfl|⟨s,h⟩)
  ·exact ⟨[],by simp,.inl rfl⟩
  ·exact ⟨47 :: s,by rw [← h];simp,.inr rfl⟩
 ·rintro ⟨r,rfl,rfl|h⟩
  ·exact .inl (by simp)
  ·cases r with
   | nil=>exact .inl (by simp)
   | cons c r =>
     simp at h
     subst h
     exact .inr ⟨r,by simp⟩
theorem J8 {p q r:qC} (h1:inB p q = true) (h2:inB q r = true):inB p r = true:=by
 obtain ⟨a,rfl,ha⟩:=zR.1 h1
 obtain ⟨b,rfl,hb⟩:=zR.1 h2
 refine zR.2 ⟨b ++ a,by simp,?_⟩
 cases b with
 | nil=>simpa using ha
 | cons c b=>right;simpa using hb
theorem qfC {p q:qC} (h1:inB p q = true) (h2:inB q p = true):p = q:=by
 obtain ⟨a,h,_⟩:=zR.1 h1
 obtain ⟨b,h',_⟩:=zR.1 h2
 have hl:a = []:=by
  have:=congrArg List.length h
  have:=congrArg List.length h'
  simp at *
  exact List.length_eq_zero_iff.1 (by omega)
 rw [h,hl];simp
theorem XM {p q:qC}:inB p q = true ↔ qm q <+: qm p:=by rw [V0,List.isPrefixOf_iff_prefix]
end Go.Proofs.YtiljlcgmcmjcoaaGreatDoor
set_option linter.unusedSimpArgs false
set_option linter.unnecessarySimpa false
set_option linter.unusedVariables false
namespace Go.Ab
theorem WV {C:Cx} {ts:List (Nat × AV)} {hs:List (Nat × HB)} {nx:Nat} (i n:Nat) {off len:Nat} {rows:List (List AV)} (hi:qu ts i = .os n off len) (hn:ja hs n = .fz rows) (hl:off + len ≤ rows.length):Red C ⟨ts,hs,nx⟩ ⟨(i,.sl false ((rows.drop off).take len)) :: ts,hs,nx⟩:=by
 intro B a w hB ⟨g1,g2,F,ρ,hp,g4⟩
 refine ⟨g1,g2,F,ρ, { kept:=hp.kept,agree:=hp.agree,grow:=hp.grow,fresh:=hp.fresh,names:=hp.names,dom:=hp.dom,own:=hp.own,new:=hp.new,sep:=hp.sep },fun m=>?_⟩
 show M F ρ _ (qu ((i,_) :: ts) m)
 rw [QD]
 by_cases him:i = m
 ·subst him
  rw [if_pos rfl]
  have h1:M F ρ _ (qu ts i):=g4 i
  rw [hi] at h1
  have h2:OwnAt F ρ w n (ja hs n):=hp.own n
  exact qch (L:=[]) (rh:=[n]) (h:=ja hs) hn (by simp) hl F ρ ρ w _ (fun m hm=>by obtain rfl:=List.mem_singleton.1 hm;exact h2) (fun a b hm c hc=>by
   rcases hm with h|h
   ·obtain rfl:=h.2;exact hc
   ·cases h) h1
 ·rw [if_neg him]
  exact g4 m
end Go.Ab
set_option maxHeartbeats 1000000
namespace Go.Proofs.YtiljlcgmcmjcoaaGreatDoor
open Go.Ab Go.RowKit
set_option maxRecDepth 10000
attribute [local irreducible] Awp ye ji qQ Red qF Go.Ab.Fin qo Rz xx qG qO ResOk jK je jX qW
theorem Jh {t:List Ent} (h:jJ t = 0):t.length ≤ 60 ∧ (∀ x,x ∈ t → xI x = 0) ∧ qv yt t = true ∧ ∀ x,x ∈ t → yJ t x = 0:=by
 unfold jJ at h
 split at h
 ·exact absurd h (by decide)
 ·split at h
  ·split at h
   ·split at h
    ·exact absurd h (by decide)
    ·split at h
     ·exact absurd h (by decide)
     ·rename_i h1 h2 h3 h4 h5
      refine ⟨by omega,jL.1 h2,h3,fun x hx=>?_⟩
      have h6:(t.any fun x=>decide (¬ yJ t x = 0)) = false:=by simpa using h5
      rw [List.any_eq_false] at h6
      simpa using h6 x hx
   ·exact absurd h (by decide)
  ·contradiction
theorem za {x:Ent} (h:xI x = 0):qM x.path = 0 ∧ ¬ (x.fold = true ∧ ¬ x.text = []) ∧ x.text.length ≤ 300 ∧ v8 x.ver = true:=by
 unfold xI at h
 split at h
 ·split at h
  ·exact absurd h (by decide)
  ·split at h
   ·exact absurd h (by decide)
   ·split at h
    ·exact ⟨by assumption,by assumption,by omega,by assumption⟩
    ·exact absurd h (by decide)
 ·contradiction
theorem RightE.of {t:List Ent} (h:jJ t = 0):RightE t:=by
 obtain ⟨h1,h2,h3,h4⟩:=Jh h
 exact ⟨h3,fun x hx=>(za (h2 x hx)).1,by omega⟩
end Go.Proofs.YtiljlcgmcmjcoaaGreatDoor
set_option linter.unusedSimpArgs false
set_option linter.unnecessarySimpa false
set_option linter.unusedVariables false
namespace Go.Proofs.YtiljlcgmcmjcoaaGreatDoor
open Go.Op
structure Right (t:List Ent):Prop where
 len:t.length ≤ 60
 ent : ∀ x,x ∈ t → xI x = 0
 rise:qv yt t = true
 par : ∀ x,x ∈ t → yC t (qR x.path) = 0
theorem zD {t:List Ent}:jJ t = 0 ↔ Right t:=by
 constructor
 ·intro h
  obtain ⟨h1,h2,h3,h4⟩:=Jh h
  exact ⟨h1,h2,h3,h4⟩
 ·intro h
  have h1:¬ 60 < t.length:=by have:=h.len;omega
  have h2:t.any (fun x=>decide (yJ t x = 5)) = false:=by
   rw [List.any_eq_false];intro x hx
   have:yJ t x = 0:=h.par x hx
   simp [this]
  have h3:t.any (fun x=>decide (¬ yJ t x = 0)) = false:=by
   rw [List.any_eq_false];intro x hx
   have:yJ t x = 0:=h.par x hx
   simp [this]
  unfold jJ
  rw [if_neg h1,if_pos (jL.2 h.ent),if_pos h.rise,h2,h3]
  rfl
theorem x7 {t:List Ent} {q:qC}:yC t q = 0 ↔ q = [] ∨ ∃ y,jw t q = some y ∧ y.fold = true:=by
 unfold yC jw
 by_cases hq:q = []
 ·simp [hq]
 ·rw [if_neg hq]
  cases h:t.find? (atP q) with
  | none=>simp [hq]
  | some x=>cases hf:x.fold<;>simp [hq,hf]
theorem wj {p:qC} (h:qM p = 0) : ∀ n,n ∈ qm p → n ≠ []:=fun n hn e=>by
 have:=(wB.1 h).1 n hn
 rw [e,qcT] at this;cases this
theorem X7 {p:qC} (h:(qm p).dropLast ≠ []):qm (qR p) = (qm p).dropLast:=by
 obtain ⟨h1,h2⟩:=kn p
 rw [← h2]
 exact YG h fun n hn=>Xm p n (List.dropLast_subset _ hn)
theorem qhm {p q:qC} (hp:qM p = 0) (hi:inB p q = true) (hne:¬ q = p):¬ qR p = [] ∧ inB (qR p) q = true ∧ (qm (qR p)).length < (qm p).length:=by
 have hpre:=XM.1 hi
 obtain ⟨s,hs⟩:=hpre
 have hsn:s ≠ []:=fun e=>hne (by
  rw [e,List.append_nil] at hs
  rw [← vh q,hs,vh])
 have hdl:(qm p).dropLast = qm q ++ s.dropLast:=by rw [← hs,List.dropLast_append_of_ne_nil hsn]
 have hdn:(qm p).dropLast ≠ []:=by
  rw [hdl];intro e
  exact vi q (List.append_eq_nil_iff.1 e).1
 have hpn:=X7 hdn
 refine ⟨fun e=>?_,?_,?_⟩
 ·have hm:([]:qC) ∈ qm (qR p):=by rw [e];simp [qm]
  rw [hpn] at hm
  exact wj hp [] (List.dropLast_subset _ hm) rfl
 ·rw [XM,hpn,hdl]
  exact List.prefix_append _ _
 ·rw [hpn,List.length_dropLast]
  have:=names_pos' p
  omega
where names_pos' (p:qC):0 < (qm p).length:=List.length_pos_iff.2 (vi p)
theorem qiO {p:qC} (hp:qM p = 0):¬ qR p = p:=fun e=>by
 obtain ⟨h1,h2⟩:=kn p
 have h3:(qm p).dropLast ≠ [] ∨ (qm p).dropLast = []:=(Decidable.em _).symm
 rcases h3 with h3|h3
 ·have:=X7 h3
  rw [e] at this
  have hl:=congrArg List.length this
  rw [List.length_dropLast] at hl
  have:=List.length_pos_iff.2 (vi p)
  omega
 ·rw [h3] at h2
  have:p = []:=by rw [← e, ← h2];rfl
  subst this
  exact wj hp [] (by simp [qm]) rfl
theorem qc1 {p:qC} (hp:qM p = 0) (hne:¬ qR p = []):inB p (qR p) = true:=by
 obtain ⟨h1,h2⟩:=kn p
 have hdn:(qm p).dropLast ≠ []:=fun e=>hne (by rw [← h2,e];rfl)
 rw [XM,X7 hdn]
 exact List.dropLast_prefix _
theorem anc {t:List Ent} (h:Right t) : ∀ (n:Nat) (x:Ent),x ∈ t → (qm x.path).length = n → ∀ q,inB x.path q = true → ¬ q = x.path → ∃ y,jw t q = some y ∧ y.fold = true:=by
 intro n
 induction n using Nat.strongRecOn with
 | _ n ih =>
   intro x hx hn q hi hne
   have hpe:=(za (h.ent x hx)).1
   obtain ⟨h1,h2,h3⟩:=qhm hpe hi hne
   rcases x7.1 (h.par x hx) with h4|⟨y,h4,h5⟩
   ·exact absurd h4 h1
   ·obtain ⟨h6,h7⟩:=xP h4
    by_cases hq:q = qR x.path
    ·subst hq;exact ⟨y,h4,h5⟩
    ·exact ih (qm y.path).length (by rw [h7];omega) y h6 rfl q (by rw [h7];exact h2) (by rw [h7];exact hq)
theorem qhy {t:List Ent} (h:Right t) {q p:qC} (hq:jw t q = none) (hi:inB p q = true):jw t p = none:=by
 cases hl:jw t p with
 | none=>rfl
 | some x =>
   obtain ⟨h1,h2⟩:=xP hl
   by_cases e:q = p
   ·subst e;rw [hq] at hl;cases hl
   ·obtain ⟨y,h3,_⟩:=anc h _ x h1 rfl q (by rw [h2];exact hi) (by rw [h2];exact e)
    rw [hq] at h3;cases h3
theorem Kr {u:List Ent} (hs:qv yt u = true) (hl:u.length ≤ 60) (h : ∀ p x,jw u p = some x → xI x = 0 ∧ (qR p = [] ∨ ∃ y,jw u (qR p) = some y ∧ y.fold = true)):Right u :=
 ⟨hl,fun x hx=>(h _ x (Z4 hs hx)).1,hs,fun x hx=>x7.2 (h _ x (Z4 hs hx)).2⟩
theorem qfH {t:List Ent} {c:Chg} (h:zY t c = 0):yC t (qR (jW c)) = 0 ∧ zN t c = 0 ∧ wa t c = 0 ∧ yv t c = 0:=by
 unfold zY at h
 split at h
 ·contradiction
 ·split at h
  ·contradiction
  ·split at h
   ·contradiction
   ·exact ⟨by omega,by omega,by omega,h⟩
theorem qgv {t:List Ent} {c:Chg} {v:Int} (h:kE t c v = 0):yI c = 0 ∧ zY t c = 0 ∧ yw t c v = 0:=by
 unfold kE at h
 split at h
 ·contradiction
 ·split at h
  ·contradiction
  ·exact ⟨by omega,by omega,h⟩
def Xo (c:Chg) (p:qC):qC:=c.path ++ p.drop c.to.length
theorem qd2 {c:Chg} {p:qC} (h:inB p c.to = true) : ∃ r,p = c.to ++ r ∧ Xo c p = c.path ++ r ∧ inB (Xo c p) c.path = true ∧ (r = [] ∨ r.head? = some 47):=by
 obtain ⟨r,rfl,hr⟩:=zR.1 h
 have hb:Xo c (c.to ++ r) = c.path ++ r:=by simp [Xo]
 exact ⟨r,rfl,hb,by rw [hb];exact zR.2 ⟨r,rfl,hr⟩,hr⟩
theorem ZR {t:List Ent} {c:Chg} {v:Int} {y:Ent} (h:y ∈ jz t c v) : ∃ x r,x ∈ t ∧ x.path = c.path ++ r ∧ (r = [] ∨ r.head? = some 47) ∧ y = y8 c v x ∧ y.path = c.to ++ r:=by
 obtain ⟨x,hx,rfl⟩:=List.mem_map.1 h
 obtain ⟨hx1,hx2⟩:=List.mem_filter.1 hx
 obtain ⟨r,hr,hr2⟩:=zR.1 hx2
 exact ⟨x,r,hx1,hr,hr2,rfl,by simp [y8,hr]⟩
theorem qfc {t:List Ent} {c:Chg} {v:Int} (hs:qv yt t = true) (p:qC):jw (jz t c v) p = if inB p c.to = true then (jw t (Xo c p)).map (y8 c v) else none:=by
 split
 ·rename_i h
  obtain ⟨r,rfl,hb,hbi,hr⟩:=qd2 (c:=c) h
  rw [hb] at hbi ⊢
  cases hl:jw t (c.path ++ r) with
  | none =>
    rw [Option.map_none,ka]
    intro y hy e
    obtain ⟨x,r',h1,h2,_,_,h3⟩:=ZR hy
    rw [h3] at e
    have:=List.append_cancel_left e
    subst this
    exact ka.1 hl x h1 h2
  | some x =>
    obtain ⟨h1,h2⟩:=xP hl
    rw [Option.map_some]
    have hm:y8 c v x ∈ jz t c v:=List.mem_map.2 ⟨x,List.mem_filter.2 ⟨h1,by unfold kr;rw [h2];exact hbi⟩,rfl⟩
    have hp:(y8 c v x).path = c.to ++ r:=by simp [y8,h2]
    cases hf:jw (jz t c v) (c.to ++ r) with
    | none=>exact absurd hp (ka.1 hf _ hm)
    | some y =>
      obtain ⟨h3,h4⟩:=xP hf
      obtain ⟨x',r',h5,h6,_,h7,h8⟩:=ZR h3
      rw [h8] at h4
      have:=List.append_cancel_left h4
      subst this
      rw [h7,qb4 hs h1 h5 (by rw [h2,h6])]
 ·rename_i h
  rw [ka]
  intro y hy e
  obtain ⟨x,r,h1,h2,h3,_,h4⟩:=ZR hy
  exact h (zR.2 ⟨r,by rw [← e,h4],h3⟩)
theorem qdn {t:List Ent} {c:Chg} {v:Int} (hs:qv yt t = true):(jz t c v).Pairwise fun a b => ¬ a.path = b.path:=by
 unfold jz
 rw [List.pairwise_map]
 have h1:(t.filter (kr c.path)).Pairwise (fun a b=>bytesLess a.path b.path = true):=(zf.1 hs).sublist List.filter_sublist
 refine h1.imp_of_mem fun {a b} ha hb hlt=>?_
 obtain ⟨r,hr,_⟩:=zR.1 (List.mem_filter.1 ha).2
 obtain ⟨s,hs',_⟩:=zR.1 (List.mem_filter.1 hb).2
 intro e
 simp only [y8,hr,hs',List.drop_left] at e
 have:=List.append_cancel_left e
 rw [hr,hs',this,xp] at hlt
 cases hlt
theorem qd9 {t:List Ent} {c:Chg} {v:Int} (h:Right t) (hk:c.kind = 3) (hto:jw t c.to = none) (p:qC):jw (ju t c v) p = if inB p c.to = true then (jw t (Xo c p)).map (y8 c v) else if inB p c.path = true then none else jw t p:=by
 have hD:ju t c v = (jz t c v).foldl xg (yb (kr c.path) t):=by simp [ju,hk]
 rw [hD,VJ (kw h.rise) (qdn h.rise),qfc h.rise,XF]
 by_cases hi:inB p c.to = true
 ·rw [if_pos hi,if_pos hi]
  cases hl:jw t (Xo c p) with
  | some x=>rfl
  | none =>
    rw [Option.map_none]
    have:=qhy h hto hi
    simp [this]
 ·rw [if_neg hi,if_neg hi]
theorem qhi {a r:qC} : ∃ s,(∀ b:qC,qR (b ++ 47 :: r) = b ++ s) ∧ (s = [] ∨ s.head? = some 47):=by
 rcases JL (c:=47) r with h|⟨r1,r2,rfl,h⟩
 ·exact ⟨[],fun b=>by rw [(We h).1];simp,.inl rfl⟩
 ·refine ⟨47 :: r1,fun b=>?_,.inr rfl⟩
  have:=(We (a:=b ++ 47 :: r1) h).1
  rw [← this];simp
theorem qge {c:Chg} (h:yI c = 0):c.text.length ≤ 300:=by
 have:=(yS h).2.2.2.2
 unfold kS at this
 split at this
 ·exact absurd this (by decide)
 ·split at this
  ·exact absurd this (by decide)
  ·omega
theorem qcq {p:qC} {f:Bool} {s:qC} {v:Int} (h1:qM p = 0) (h2:f = true → s = []) (h3:s.length ≤ 300) (h4:v8 v = true):xI ⟨p,f,s,v⟩ = 0:=by
 unfold xI
 simp only
 rw [if_pos h1,if_neg (fun e=>e.2 (h2 e.1)),if_neg (by omega),if_pos h4]
theorem qc7 {t:List Ent} {c:Chg} {v:Int} (h:Right t) (hv:v8 v = true) (hr:kE t c v = 0):Right (ju t c v):=by
 obtain ⟨hc0,hm0,hd0⟩:=qgv hr
 obtain ⟨k1,k2,hpe,hte, -⟩:=yS hc0
 obtain ⟨hf,hi,hmv, -⟩:=qfH hm0
 obtain ⟨hb,h60⟩:=W4 hd0
 have hs:=Xc (c:=c) (v:=v) h.rise
 have htx:=qge hc0
 refine Kr hs h60 fun p x hx=>?_
 by_cases e1:c.kind = 1
 ·have hD:ju t c v = xg t ⟨c.path,true,[],v⟩:=by simp [ju,e1]
  have hg:jW c = c.path:=by simp [jW,e1]
  rw [hg] at hf
  rw [hD,JP h.rise] at hx
  have key : ∀ q,(∃ y,jw t q = some y ∧ y.fold = true) → ∃ y,jw (ju t c v) q = some y ∧ y.fold = true:=fun q ⟨y,h1,h2⟩=>by
   rw [hD,JP h.rise]
   split
   ·exact ⟨_,rfl,rfl⟩
   ·exact ⟨y,h1,h2⟩
  split at hx
  ·rename_i hp
   injection hx with hx
   subst hx;subst hp
   exact ⟨qcq hpe (fun _=>rfl) (by simp) hv,(x7.1 hf).imp id (key _)⟩
  ·obtain ⟨h1,h2⟩:=xP hx
   refine ⟨h.ent x h1,?_⟩
   have:=x7.1 (h.par x h1)
   rw [h2] at this
   exact this.imp id (key _)
 ·by_cases e2:c.kind = 2
  ·have hD:ju t c v = xg t ⟨c.path,false,c.text,v⟩:=by simp [ju,e2]
   have hg:jW c = c.path:=by simp [jW,e2]
   rw [hg] at hf
   rw [hD,JP h.rise] at hx
   have hfa : ∀ y,jw t c.path = some y → y.fold = false:=fun y hy=>by
    unfold zN at hi
    rw [if_neg e1,if_pos e2] at hi
    unfold vr at hi
    rw [show t.find? (atP c.path) = some y from hy] at hi
    cases hyf:y.fold with
    | false=>rfl
    | true=>simp [hyf] at hi
   have key : ∀ q,(∃ y,jw t q = some y ∧ y.fold = true) → ∃ y,jw (ju t c v) q = some y ∧ y.fold = true:=fun q ⟨y,h1,h2⟩=>by
    rw [hD,JP h.rise]
    split
    ·rename_i e
     simp only at e
     rw [e] at h1
     rw [hfa y h1] at h2;cases h2
    ·exact ⟨y,h1,h2⟩
   split at hx
   ·rename_i hp
    injection hx with hx
    subst hx;subst hp
    exact ⟨qcq hpe (fun e=>by cases e) htx hv,(x7.1 hf).imp id (key _)⟩
   ·obtain ⟨h1,h2⟩:=xP hx
    refine ⟨h.ent x h1,?_⟩
    have:=x7.1 (h.par x h1)
    rw [h2] at this
    exact this.imp id (key _)
  ·by_cases e4:c.kind = 4
   ·have hD:ju t c v = yb (kr c.path) t:=by simp [ju,e4]
    rw [hD,XF] at hx
    split at hx
    ·cases hx
    ·rename_i hin
     obtain ⟨h1,h2⟩:=xP hx
     refine ⟨h.ent x h1,?_⟩
     have hxe:=(za (h.ent x h1)).1
     have:=x7.1 (h.par x h1)
     rw [h2] at this hxe
     rcases this with h3|⟨y,h3,h4⟩
     ·exact .inl h3
     ·refine .inr ⟨y,?_,h4⟩
      rw [hD,XF,if_neg]
      ·exact h3
      ·intro h5
       have hne:¬ qR p = []:=fun e=>by
        rw [e] at h3
        obtain ⟨h6,h7⟩:=xP h3
        have:=(za (h.ent y h6)).1
        rw [h7] at this
        exact wj this [] (by simp [qm]) rfl
       exact hin (J8 (qc1 hxe hne) h5)
   ·have e3:c.kind = 3:=by omega
    have hpt:=hte e3
    have hg:jW c = c.to:=by simp [jW,e3]
    rw [hg] at hf
    have hM:wa t c = if inB c.to c.path = true then 3 else if yV t c.to = true then 6 else 0:=by unfold wa;rw [if_pos e3]
    rw [hmv] at hM
    have hin0:inB c.to c.path = false:=by
     cases h0:inB c.to c.path with
     | true=>rw [h0] at hM;simp at hM
     | false=>rfl
    rw [hin0,if_neg (by decide)] at hM
    have hhit:yV t c.to = false:=by
     cases h0:yV t c.to with
     | true=>rw [h0] at hM;simp at hM
     | false=>rfl
    have hto:jw t c.to = none:=(x9 hhit).1
    have hlm:=qd9 (v:=v) h e3 hto
    rw [hlm] at hx
    have nonil : ∀ q y,jw t q = some y → ¬ q = []:=fun q y hy e=>by
     obtain ⟨h6,h7⟩:=xP hy
     have:=(za (h.ent y h6)).1
     rw [h7,e] at this
     exact wj this [] (by simp [qm]) rfl
    split at hx
    ·rename_i hi2
     obtain ⟨r,rfl,hb2,hbi,hr2⟩:=qd2 (c:=c) hi2
     rw [hb2] at hx hbi
     obtain ⟨x0,hx0,rfl⟩:=Option.map_eq_some_iff.1 hx
     obtain ⟨h1,h2⟩:=xP hx0
     have he0:=za (h.ent x0 h1)
     refine ⟨?_,?_⟩
     ·have hpm:qM (y8 c v x0).path = 0:=by
       refine Xu he0.1 hpe hpt (by rw [h2];exact hbi) ?_
       simp only [y7,e3,decide_true,Bool.true_and,List.any_eq_false] at hb
       simpa using hb x0 (List.mem_filter.2 ⟨h1,by unfold kr;rw [h2];exact hbi⟩)
      refine qcq hpm (fun e=>?_) he0.2.2.1 ?_
      ·cases hs0:x0.text with
       | nil=>rfl
       | cons a s=>exact absurd ⟨e,by rw [hs0];simp⟩ he0.2.1
      ·split
       ·exact hv
       ·exact he0.2.2.2
     ·rcases hr2 with rfl|hr2
      ·rw [List.append_nil]
       rcases x7.1 hf with h3|⟨y,h3,h4⟩
       ·exact .inl h3
       ·refine .inr ⟨y,?_,h4⟩
        have hne:=nonil _ y h3
        have hpi:=qc1 hpt hne
        rw [hlm,if_neg,if_neg]
        ·exact h3
        ·intro h5
         have:=J8 hpi h5
         rw [hin0] at this;cases this
        ·intro h5
         exact qiO hpt (qfC h5 hpi)
      ·cases r with
       | nil=>cases hr2
       | cons a r =>
         simp at hr2
         subst hr2
         obtain ⟨s,hs1,hs2⟩:=qhi (a:=c.to) (r:=r)
         have hp0:=x7.1 (h.par x0 h1)
         rw [h2,hs1 c.path] at hp0
         rcases hp0 with h3|⟨y,h3,h4⟩
         ·have:c.path = []:=(List.append_eq_nil_iff.1 h3).1
          rw [this] at hpe
          exact absurd rfl (wj hpe [] (by simp [qm]))
         ·refine .inr ⟨y8 c v y,?_,h4⟩
          have hin3:inB (c.to ++ s) c.to = true:=zR.2 ⟨s,rfl,hs2⟩
          rw [hs1 c.to,hlm,if_pos hin3,show Xo c (c.to ++ s) = c.path ++ s from by simp [Xo],h3]
          rfl
    ·rename_i hi2
     split at hx
     ·cases hx
     ·rename_i hi3
      obtain ⟨h1,h2⟩:=xP hx
      refine ⟨h.ent x h1,?_⟩
      have hxe:=(za (h.ent x h1)).1
      have:=x7.1 (h.par x h1)
      rw [h2] at this hxe
      rcases this with h3|⟨y,h3,h4⟩
      ·exact .inl h3
      ·have hpi:=qc1 hxe (nonil _ y h3)
       refine .inr ⟨y,?_,h4⟩
       rw [hlm,if_neg (fun h5=>hi2 (J8 hpi h5)),if_neg (fun h5=>hi3 (J8 hpi h5))]
       exact h3
theorem Right.big {t:List Ent} (h:Right t):EBig t:=⟨fun x hx=>by
 have h1:=za (h.ent x hx)
 have h2:=jt h1.1
 exact ⟨by omega,by omega⟩,by have:=h.len;omega⟩
end Go.Proofs.YtiljlcgmcmjcoaaGreatDoor
set_option linter.unusedSimpArgs false
set_option linter.unnecessarySimpa false
set_option linter.unusedVariables false
set_option maxHeartbeats 1000000
namespace Go.Proofs.YtiljlcgmcmjcoaaGreatDoor
open Go.Ab Go.RowKit
set_option maxRecDepth 10000
attribute [local irreducible] Awp ye ji qQ Red qF Go.Ab.Fin qo Rz xx qG qO ResOk jK je jX qW
theorem zi (o:List Ent) (r s:List AV) {y z:Ent} (hr:r = y.row:=by rfl) (hs:s = z.row:=by rfl):(((o.map Ent.row).take o.length ++ [r]).take (o.length + 1)) ++ [s] = (o ++ ([y] ++ [z])).map Ent.row:=by
 subst hr;subst hs
 have e1:(o.map Ent.row).take o.length = o.map Ent.row:=List.take_of_length_le (by simp)
 rw [e1,List.take_of_length_le (by simp)]
 simp
theorem Qu (t:List Ent) (x:Ent) (hl:t.length ≤ 400000):jO C.P 163 [qr t,.agg x.row] (qr (qbi t x)):=by
 refine qa Tryz.func163 rfl _ Tryz.ntmps163 (Nat.le_of_ble_eq_true rfl) _ Tryz.results163 0 rfl rfl ?_
 repeat' (first|refine qe ?_|fail|((first|refine qb ?_ ?_|refine qc ?_ ?_|refine xsC ?_ ?_);all_goals (intro hc;have hp:=hc;try simp at hp;try (exfalso;omega)))|refine qp ?_ ?_)
 refine Awp.red (zd 5 4 rfl (Nat.zero_le _)) ?_
 (refine Awp.red (qY (τ:=⟨[(0,qr t),(3,.op 0 0 0),(5,.os 1 0 0),(6,.v (.bool false)),(7,.v (.int .i64 ((0:Nat):Int)))],[(0,.own false 4 [x.row]),(1,.own false 4 [])],2⟩) [(0,0),(1,1)] rfl ?gts ?ghs) ?gmain;(case gts=>(repeat (first|exact qd|refine qi ?_|refine xd ?_|refine xL ?_|refine qI ?_ ?_));all_goals skip);(case ghs=>(repeat (first|exact qf|refine jV ?_|refine qH ?_ ?_))))
 refine qq (fun n σ => ∃ i:Nat,i ≤ t.length ∧ n = t.length - i ∧ (True) ∧ σ = ⟨[(0,qr t),(3,.op 0 0 0),(5,.os 1 0 (zp (t.take i) x).1.length),(6,.v (.bool (zp (t.take i) x).2)),(7,.v (.int .i64 (i:Int)))],[(0,.own false 4 [x.row]),(1,.own false 4 ((zp (t.take i) x).1.map Ent.row))],2⟩) t.length ⟨0,Nat.zero_le _,rfl,trivial,rfl⟩ ?_
 rintro n σ ⟨i,hi,rfl, -,rfl⟩
 have hgl:=qfK (t.take i) x
 have htl:(t.take i).length ≤ t.length:=by simp;omega
 by_cases hlt:i < t.length
 ·have hr:=qx (f:=Ent.row) hlt
  have hgs := @qeq t x i hlt
  generalize zp (t.take i) x = G at *
  obtain ⟨o,b⟩:=G
  simp only [xW] at hgs
  have hgl:o.length ≤ 2 * (t.take i).length:=hgl
  cases b<;>cases hless:Op.bytesLess t[i].path x.path<;>by_cases hpe:t[i].path = x.path
  all_goals try (exfalso;rw [hpe,xp] at hless;exact absurd hless (by decide))
  all_goals simp only [hless,hpe,xp,if_true,if_false,and_true,and_false,and_self,Bool.false_or,Bool.true_or,Bool.not_true,Bool.not_false,List.append_nil,Bool.true_eq_false,Bool.false_eq_true,List.append_assoc] at hgs
  all_goals (
   repeat' (first|refine qe ?_|(first|(refine jN ?_)|(refine yX ?_))|((first|refine qb ?_ ?_|refine qc ?_ ?_|refine xsC ?_ ?_);all_goals (intro hc;have hp:=hc;try simp at hp;try (exfalso;omega)))|refine qp ?_ ?_))
  all_goals try (exfalso;first|omega|contradiction|(simp_all;done))
  ·refine ⟨t.length - (i + 1),_,by omega,qY (τ:=⟨[(0,qr t),(3,.op 0 0 0),(5,.os 1 0 (zp (t.take (i + 1)) x).1.length),(6,.v (.bool (zp (t.take (i + 1)) x).2)),(7,.v (.int .i64 ((i + 1:Nat):Int)))],[(0,.own false 4 [x.row]),(1,.own false 4 ((zp (t.take (i + 1)) x).1.map Ent.row))],2⟩) [(0,0),(2,1)] rfl ?gts ?ghs,i + 1,by omega,rfl,trivial,rfl⟩;(case gts=>(repeat (first|exact qd|refine qi ?_|refine xd ?_|refine xL ?_|refine qI ?_ ?_));all_goals (rw [hgs];try first|(simp only [List.length_append,List.length_cons,List.length_nil,List.map_append,List.map_cons,List.map_nil,List.append_assoc,List.cons_append,List.nil_append];done)|(rw [List.take_of_length_le (by simp)];simp;done)|(simp;done)|exact zi o x.row _));(case ghs=>(repeat (first|exact qf|refine jV ?_|refine qH ?_ ?_));all_goals (rw [hgs];try first|(simp only [List.length_append,List.length_cons,List.length_nil,List.map_append,List.map_cons,List.map_nil,List.append_assoc,List.cons_append,List.nil_append];done)|(rw [List.take_of_length_le (by simp)];simp;done)|(simp;done)|exact zi o x.row _))
  ·refine ⟨t.length - (i + 1),_,by omega,qY (τ:=⟨[(0,qr t),(3,.op 0 0 0),(5,.os 1 0 (zp (t.take (i + 1)) x).1.length),(6,.v (.bool (zp (t.take (i + 1)) x).2)),(7,.v (.int .i64 ((i + 1:Nat):Int)))],[(0,.own false 4 [x.row]),(1,.own false 4 ((zp (t.take (i + 1)) x).1.map Ent.row))],2⟩) [(0,0),(3,1)] rfl ?gts ?ghs,i + 1,by omega,rfl,trivial,rfl⟩;(case gts=>(repeat (first|exact qd|refine qi ?_|refine xd ?_|refine xL ?_|refine qI ?_ ?_));all_goals (rw [hgs];try first|(simp only [List.length_append,List.length_cons,List.length_nil,List.map_append,List.map_cons,List.map_nil,List.append_assoc,List.cons_append,List.nil_append];done)|(rw [List.take_of_length_le (by simp)];simp;done)|(simp;done)|exact zi o x.row _));(case ghs=>(repeat (first|exact qf|refine jV ?_|refine qH ?_ ?_));all_goals (rw [hgs];try first|(simp only [List.length_append,List.length_cons,List.length_nil,List.map_append,List.map_cons,List.map_nil,List.append_assoc,List.cons_append,List.nil_append];done)|(rw [List.take_of_length_le (by simp)];simp;done)|(simp;done)|exact zi o x.row _))
  ·refine ⟨t.length - (i + 1),_,by omega,qY (τ:=⟨[(0,qr t),(3,.op 0 0 0),(5,.os 1 0 (zp (t.take (i + 1)) x).1.length),(6,.v (.bool (zp (t.take (i + 1)) x).2)),(7,.v (.int .i64 ((i + 1:Nat):Int)))],[(0,.own false 4 [x.row]),(1,.own false 4 ((zp (t.take (i + 1)) x).1.map Ent.row))],2⟩) [(0,0),(2,1)] rfl ?gts ?ghs,i + 1,by omega,rfl,trivial,rfl⟩;(case gts=>(repeat (first|exact qd|refine qi ?_|refine xd ?_|refine xL ?_|refine qI ?_ ?_));all_goals (rw [hgs];try first|(simp only [List.length_append,List.length_cons,List.length_nil,List.map_append,List.map_cons,List.map_nil,List.append_assoc,List.cons_append,List.nil_append];done)|(rw [List.take_of_length_le (by simp)];simp;done)|(simp;done)|exact zi o x.row _));(case ghs=>(repeat (first|exact qf|refine jV ?_|refine qH ?_ ?_));all_goals (rw [hgs];try first|(simp only [List.length_append,List.length_cons,List.length_nil,List.map_append,List.map_cons,List.map_nil,List.append_assoc,List.cons_append,List.nil_append];done)|(rw [List.take_of_length_le (by simp)];simp;done)|(simp;done)|exact zi o x.row _))
  ·refine ⟨t.length - (i + 1),_,by omega,qY (τ:=⟨[(0,qr t),(3,.op 0 0 0),(5,.os 1 0 (zp (t.take (i + 1)) x).1.length),(6,.v (.bool (zp (t.take (i + 1)) x).2)),(7,.v (.int .i64 ((i + 1:Nat):Int)))],[(0,.own false 4 [x.row]),(1,.own false 4 ((zp (t.take (i + 1)) x).1.map Ent.row))],2⟩) [(0,0),(1,1)] rfl ?gts ?ghs,i + 1,by omega,rfl,trivial,rfl⟩;(case gts=>(repeat (first|exact qd|refine qi ?_|refine xd ?_|refine xL ?_|refine qI ?_ ?_));all_goals (rw [hgs];try first|(simp only [List.length_append,List.length_cons,List.length_nil,List.map_append,List.map_cons,List.map_nil,List.append_assoc,List.cons_append,List.nil_append];done)|(rw [List.take_of_length_le (by simp)];simp;done)|(simp;done)|exact zi o x.row _));(case ghs=>(repeat (first|exact qf|refine jV ?_|refine qH ?_ ?_));all_goals (rw [hgs];try first|(simp only [List.length_append,List.length_cons,List.length_nil,List.map_append,List.map_cons,List.map_nil,List.append_assoc,List.cons_append,List.nil_append];done)|(rw [List.take_of_length_le (by simp)];simp;done)|(simp;done)|exact zi o x.row _))
  ·refine ⟨t.length - (i + 1),_,by omega,qY (τ:=⟨[(0,qr t),(3,.op 0 0 0),(5,.os 1 0 (zp (t.take (i + 1)) x).1.length),(6,.v (.bool (zp (t.take (i + 1)) x).2)),(7,.v (.int .i64 ((i + 1:Nat):Int)))],[(0,.own false 4 [x.row]),(1,.own false 4 ((zp (t.take (i + 1)) x).1.map Ent.row))],2⟩) [(0,0),(2,1)] rfl ?gts ?ghs,i + 1,by omega,rfl,trivial,rfl⟩;(case gts=>(repeat (first|exact qd|refine qi ?_|refine xd ?_|refine xL ?_|refine qI ?_ ?_));all_goals (rw [hgs];try first|(simp only [List.length_append,List.length_cons,List.length_nil,List.map_append,List.map_cons,List.map_nil,List.append_assoc,List.cons_append,List.nil_append];done)|(rw [List.take_of_length_le (by simp)];simp;done)|(simp;done)|exact zi o x.row _));(case ghs=>(repeat (first|exact qf|refine jV ?_|refine qH ?_ ?_));all_goals (rw [hgs];try first|(simp only [List.length_append,List.length_cons,List.length_nil,List.map_append,List.map_cons,List.map_nil,List.append_assoc,List.cons_append,List.nil_append];done)|(rw [List.take_of_length_le (by simp)];simp;done)|(simp;done)|exact zi o x.row _))
  ·refine ⟨t.length - (i + 1),_,by omega,qY (τ:=⟨[(0,qr t),(3,.op 0 0 0),(5,.os 1 0 (zp (t.take (i + 1)) x).1.length),(6,.v (.bool (zp (t.take (i + 1)) x).2)),(7,.v (.int .i64 ((i + 1:Nat):Int)))],[(0,.own false 4 [x.row]),(1,.own false 4 ((zp (t.take (i + 1)) x).1.map Ent.row))],2⟩) [(0,0),(2,1)] rfl ?gts ?ghs,i + 1,by omega,rfl,trivial,rfl⟩;(case gts=>(repeat (first|exact qd|refine qi ?_|refine xd ?_|refine xL ?_|refine qI ?_ ?_));all_goals (rw [hgs];try first|(simp only [List.length_append,List.length_cons,List.length_nil,List.map_append,List.map_cons,List.map_nil,List.append_assoc,List.cons_append,List.nil_append];done)|(rw [List.take_of_length_le (by simp)];simp;done)|(simp;done)|exact zi o x.row _));(case ghs=>(repeat (first|exact qf|refine jV ?_|refine qH ?_ ?_));all_goals (rw [hgs];try first|(simp only [List.length_append,List.length_cons,List.length_nil,List.map_append,List.map_cons,List.map_nil,List.append_assoc,List.cons_append,List.nil_append];done)|(rw [List.take_of_length_le (by simp)];simp;done)|(simp;done)|exact zi o x.row _))
 obtain rfl:i = t.length:=by omega
 rw [List.take_length] at *
 have hR:qbi t x = if (zp t x).2 = true then (zp t x).1 else (zp t x).1 ++ [x]:=rfl
 generalize zp t x = G at *
 obtain ⟨o,b⟩:=G
 have hgl:o.length ≤ 2 * t.length:=hgl
 cases b
 ·have hR:qbi t x = o ++ [x]:=hR
  rw [hR]
  repeat' (first|refine qe ?_|(first|(refine jN ?_)|(refine yX ?_))|((first|refine qb ?_ ?_|refine qc ?_ ?_|refine xsC ?_ ?_);all_goals (intro hc;have hp:=hc;try simp at hp;try (exfalso;omega)))|refine qp ?_ ?_)
  all_goals try (exfalso;omega)
  (refine yu (rs:=[.tmp 4]) ?_;(repeat' (first|exact qL|apply qk|exact qB rfl|exact yi|exact vS|apply jT|apply yl|apply jQ|apply yo|apply jY|apply yq|refine vY ?_|apply y0));all_goals (show (o.map Ent.row).take o.length ++ [x.row] = _;rw [List.take_of_length_le (by simp)];simp))
 ·have hR:qbi t x = o:=hR
  rw [hR]
  repeat' (first|refine qe ?_|(first|(refine jN ?_)|(refine yX ?_))|((first|refine qb ?_ ?_|refine qc ?_ ?_|refine xsC ?_ ?_);all_goals (intro hc;have hp:=hc;try simp at hp;try (exfalso;omega)))|refine qp ?_ ?_)
  all_goals try (exfalso;omega)
  (exact j1 (rs:=[.tmp 4]))
theorem qg7:qeN C.P 72 = some [1,2,1,0]:=by kernel_rfl
theorem qeC (a b:Ent):QI [1,2,1,0] a.row b.row = some (decide (a = b)):=by
 obtain ⟨a1,a2,a3,a4⟩:=a
 obtain ⟨b1,b2,b3,b4⟩:=b
 simp only [Ent.row,QI,Jb,str,Ent.mk.injEq,if_true,Option.some.injEq]
 by_cases h1:a1 = b1<;>by_cases h2:a2 = b2<;>by_cases h3:a3 = b3<;>by_cases h4:a4 = b4<;>simp [h1,h2,h3,h4]
theorem Vd {α:Type} {a b:List α} {i:Nat} (h1:i < a.length) (h2:i < b.length) (h:a.take i = b.take i) (h3:a[i] = b[i]):a.take (i + 1) = b.take (i + 1):=by
 rw [List.take_succ_eq_append_getElem h1,List.take_succ_eq_append_getElem h2,h,h3]
theorem Yq (a b:List Ent) (ha:a.length ≤ 1000000000) (hb:b.length ≤ 1000000000):jO C.P 22 [qr a,qr b] (.v (.bool (decide (a = b)))):=by
 have hma:(a.map Ent.row).length = a.length:=List.length_map ..
 have hmb:(b.map Ent.row).length = b.length:=List.length_map ..
 refine qa Tryz.func22 rfl _ Tryz.ntmps22 (Nat.le_of_ble_eq_true rfl) _ Tryz.results22 0 rfl rfl ?_
 repeat' (first|refine qe ?_|fail|((first|refine xsC ?_ ?_);all_goals (intro hc;have hp:=hc;try simp at hp;try (exfalso;omega)))|refine qp ?_ ?_)
 ·apply jd
  rfl
  have hne:¬ a = b:=fun e=>by subst e;simp at *
  simp [hne]
 have hab:a.length = b.length:=by simp at *;omega
 (refine Awp.red (qg (ts:=[(0,qr a),(1,qr b),(5,.v (.int .i64 ((0:Nat):Int)))]) ?_) ?_;((repeat (first|exact qd|refine qi ?_|refine qI ?_ ?_))))
 refine qq (fun n σ => ∃ i:Nat,i ≤ a.length ∧ n = a.length - i ∧ (a.take i = b.take i) ∧ σ = ⟨[(0,qr a),(1,qr b),(5,.v (.int .i64 (i:Int)))],[],C.nh⟩) a.length ⟨0,Nat.zero_le _,rfl,rfl,rfl⟩ ?_
 rintro n σ ⟨i,hi,rfl,hsofar,rfl⟩
 by_cases hlt:i < a.length
 ·have hlt2:i < b.length:=by omega
  have hr:=qx (f:=Ent.row) hlt
  have hr':=qx (f:=Ent.row) hlt2
  have hnx:=Vd hlt hlt2 hsofar
  repeat' (first|refine qe ?_|(first|(apply qj;apply Y1;rfl;rfl;exact qg7;exact qeC _ _;(first|exact .inl ⟨rfl,rfl⟩|exact .inr ⟨rfl,rfl⟩);exact nle rfl))|((first|refine xsC ?_ ?_);all_goals (intro hc;have hp:=hc;try simp at hp;try (exfalso;omega)))|refine qp ?_ ?_)
  all_goals try (exfalso;omega)
  ·apply jd
   rfl
   have hne:¬ a = b:=fun e=>by subst e;simp at *
   simp [hne]
  ·refine ⟨a.length - (i + 1),_,by omega,qg (ts:=[(0,qr a),(1,qr b),(5,.v (.int .i64 ((i + 1:Nat):Int)))]) ?_,i + 1,by omega,rfl,(hnx (by simp_all)),rfl⟩;((repeat (first|exact qd|refine qi ?_|refine qI ?_ ?_)))
 obtain rfl:i = a.length:=by omega
 have he:a = b:=by rw [List.take_length] at hsofar;rw [hsofar,hab,List.take_length]
 repeat' (first|refine qe ?_|fail|((first|refine xsC ?_ ?_);all_goals (intro hc;have hp:=hc;try simp at hp;try (exfalso;omega)))|refine qp ?_ ?_)
 all_goals try (exfalso;omega)
 apply jd
 rfl
 simp [he]
end Go.Proofs.YtiljlcgmcmjcoaaGreatDoor
