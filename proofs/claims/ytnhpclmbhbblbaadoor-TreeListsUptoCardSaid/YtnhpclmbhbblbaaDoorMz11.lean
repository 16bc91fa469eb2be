import Derived.Test.YtnhpclmbhbblbaaDoorMz10
set_option linter.unusedSimpArgs false
set_option linter.unnecessarySimpa false
set_option linter.unusedVariables false
set_option maxHeartbeats 1000000
namespace Go.Proofs.YtnhpclmbhbblbaaDoor
open Go.Ab Go.RowKit
set_option maxRecDepth 10000
attribute [local irreducible] Awp jk qG q9 Red qp Go.Ab.Fin qx Rz yS qX qT ResOk jp jd jG qR
structure RightE (t:List Ent):Prop where
 rise:qV jm t = true
 paths : ∀ x,x ∈ t → qg x.path = 0
 few:t.length ≤ 400000
def xr (t:List Ent) (c:Chg) (v:Int):Int:=if ¬ yo c = 0 then yo c else if ¬ xy t c = 0 then xy t c else jI t c v
def JT (t:List Ent) (c:Chg) (v:Int):List Ent:=if xr t c v = 0 then qO t c v else []
theorem vq {c:Chg} (h:yo c = 0):1 ≤ c.kind ∧ c.kind ≤ 4 ∧ qg c.path = 0 ∧ (c.kind = 3 → qg c.to = 0) ∧ zg c = 0:=by
 unfold yo at h
 split at h
 ·exact absurd h (by decide)
 ·split at h
  ·contradiction
  ·rename_i h1 h2
   split at h
   ·rename_i h3;exact absurd h h3.2
   ·rename_i h3
    refine ⟨by omega,by omega,by simpa using h2,fun h4=>?_,h⟩
    have h5:=fun e=>h3 ⟨h4,e⟩
    simpa using h5
theorem kR {t:List Ent} {x y:Ent} (h:y ∈ jW t x):y = x ∨ y ∈ t:=by
 unfold jW at h
 split at h
 ·rcases List.mem_append.1 h with h|h
  ·exact .inr (List.mem_of_mem_take h)
  ·rcases List.mem_append.1 h with h|h
   ·exact .inl (List.mem_singleton.1 h)
   ·exact .inr (List.mem_of_mem_drop h)
 ·rcases List.mem_append.1 h with h|h
  ·exact .inr (List.mem_of_mem_take h)
  ·rcases List.mem_append.1 h with h|h
   ·exact .inl (List.mem_singleton.1 h)
   ·exact .inr (List.mem_of_mem_drop h)
theorem kE : ∀ {l t:List Ent} {y:Ent},y ∈ l.foldl jW t → y ∈ l ∨ y ∈ t
 | [],_,_,h => .inr h
 | x :: l,t,y,h=>by
   rcases kE (l:=l) (t:=jW t x) h with h|h
   ·exact .inl (List.mem_cons_of_mem _ h)
   ·rcases kR h with rfl|h
    ·exact .inl (List.mem_cons_self ..)
    ·exact .inr h
theorem wX {c:Chg} {v:Int} {x:Ent} (hx:qg x.path = 0) (h1:qg c.path = 0) (h2:qg c.to = 0) (hi:inB x.path c.path = true) (hg:qN (c.to ++ x.path.drop c.path.length) = false):qg (yd c v x).path = 0:=by
 have hm:=vm hx h1 h2 hi
 rw [hg,if_neg (by decide)] at hm
 have:=(JD hm).2.1
 exact (jn.1 this).1
theorem X7 {t:List Ent} {c:Chg} {v:Int} (h:jI t c v = 0):jU t c = false ∧ (qO t c v).length ≤ 60:=by
 unfold jI at h
 split at h
 ·exact absurd h (by decide)
 ·split at h
  ·exact absurd h (by decide)
  ·rename_i h1 h2
   exact ⟨by simpa using h1,by omega⟩
theorem Q8 {t:List Ent} {c:Chg} {v:Int} (ht : ∀ x,x ∈ t → qg x.path = 0) (hce:yo c = 0) (hbad:jU t c = false) : ∀ x,x ∈ qO t c v → qg x.path = 0:=by
 obtain ⟨k1,k2,hpe,hto, -⟩:=vq hce
 intro x hx
 unfold qO at hx
 split at hx
 ·rcases kR hx with rfl|h
  ·exact hpe
  ·exact ht x h
 ·split at hx
  ·rcases kR hx with rfl|h
   ·exact hpe
   ·exact ht x h
  ·split at hx
   ·exact ht x (List.mem_filter.1 hx).1
   ·have k3:c.kind = 3:=by omega
    rcases kE hx with h|h
    ·obtain ⟨y,hy,rfl⟩:=List.mem_map.1 h
     obtain ⟨hy1,hy2⟩:=List.mem_filter.1 hy
     simp only [jU,k3,decide_true,Bool.true_and,List.any_eq_false] at hbad
     exact wX (ht y hy1) hpe (hto k3) hy2 (by simpa using hbad y hy)
    ·exact ht x (List.mem_filter.1 h).1
theorem Qq {t:List Ent} {c:Chg} {v:Int} (hs:qV jm t = true):qV jm (qO t c v) = true:=by
 unfold qO
 split
 ·exact vd hs
 ·split
  ·exact vd hs
  ·split
   ·exact x6 hs
   ·exact xq (x6 hs)
theorem YH (t:List Ent) (c:Chg) (v:Int):(qO t c v).length ≤ 2 * t.length + 1:=by
 have h1:=fun x=>QX t x
 have h2:(jv (wG c.path) t).length ≤ t.length:=List.length_filter_le ..
 have h3:(qU t c v).length ≤ t.length:=by unfold qU;rw [List.length_map];exact List.length_filter_le ..
 have h4:=vS (qU t c v) (jv (wG c.path) t)
 unfold qO
 split
 ·have:=h1 ⟨c.path,true,[],v⟩;omega
 ·split
  ·have:=h1 ⟨c.path,false,c.text,v⟩;omega
  ·split<;>omega
theorem RightE.done {t:List Ent} {c:Chg} {v:Int} (h:RightE t) (hr:xr t c v = 0):RightE (qO t c v):=by
 unfold xr at hr
 split at hr
 ·contradiction
 ·split at hr
  ·contradiction
  ·rename_i h1 h2
   obtain ⟨h3,h4⟩:=X7 hr
   exact ⟨Qq h.rise,Q8 h.paths (by simpa using h1) h3,by omega⟩
theorem VD (t:List Ent) (c:Chg) (v:Int) (h:RightE t) (hce:yo c = 0) (hbad:jU t c = false) :
  qx C1.P 60 [.os 0 0 t.length,.agg c.row,.v (.int .i64 v)] [.own false 4 (t.map Ent.row)] (wl (jI t c v) (qO t c v).length) [.dead,.own false 4 ((qO t c v).map Ent.row)]:=by
 obtain ⟨k1,k2,hpe,hto, -⟩:=vq hce
 have hf:=h.few
 have hl:=YH t c v
 have hps:=jf hpe
 by_cases h1:c.kind = 1
 ·exact Vl t c v (by omega) h.rise h1 (by omega)
 ·by_cases h2:c.kind = 2
  ·exact Vb t c v (by omega) h.rise h2 (by omega)
  ·by_cases h4:c.kind = 4
   ·exact Vn t c v (by omega) h4 (by omega)
   ·have h3:c.kind = 3:=by omega
    exact JN t c v hf h3 h.paths hpe (hto h3) hbad h.rise
theorem Xr {t:List Ent} {c:Chg} {v:Int} (h:¬ xr t c v = 0):JT t c v = []:=by unfold JT;rw [if_neg h]
theorem Y0 (t:List Ent) (c:Chg) (v:Int) (h:RightE t) (hcs:c.small):yc C.P 38 [qo t,.agg c.row,.v (.int .i64 v)] (.tup [qo (JT t c v),.v (.int .i64 (xr t c v))]):=by
 have hf:=h.few
 have h1:=VE c hcs
 have h2:=V3 t c (by omega) h.rise hcs
 have h3:=QZ t (by omega)
 have hR:xr t c v = if ¬ yo c = 0 then yo c else if ¬ xy t c = 0 then xy t c else jI t c v:=rfl
 have hbadL := @Xr t c v
 by_cases hce:yo c = 0
 ·by_cases hme:xy t c = 0
  ·have hR2:xr t c v = jI t c v:=by rw [hR,if_neg (by simp [hce]),if_neg (by simp [hme])]
   rw [hce] at h1
   rw [hme] at h2
   cases hb:jU t c with
   | true =>
     obtain ⟨k1,k2,hpe,hto, -⟩:=vq hce
     have hk3:c.kind = 3:=by
      simp [jU] at hb;exact hb.1
     have hE:jI t c v = 2:=by simp [jI,hb]
     have hd:=QL t c v (by omega) hk3 h.paths hpe (hto hk3) hb
     rw [hE] at hR2
     rw [hbadL (by rw [hR2];decide),hR2]
     refine qa Tryd.func38 rfl _ Tryd.ntmps38 (Nat.le_of_ble_eq_true rfl) _ Tryd.results38 0 rfl rfl ?_
     repeat' (first|refine qj ?_|(first|refine jH Tryd.func58 (h1 ..) ?_|refine jH Tryd.func59 (h2 ..) ?_|(apply jo Tryd.func39 rfl rfl;intro hIsFn;refine zY ([]) hIsFn (h3 ..) ?_)|(apply jo Tryd.func60 rfl rfl;intro hIsFn;refine xO ([1]) 1 hIsFn (hd ..) ?_))|((first|refine xsC ?_ ?_);all_goals (intro hc;have hp:=hc;try simp at hp;try (exfalso;omega)))|refine qD ?_ ?_)
     all_goals try (exfalso;omega)
     (exact zh (rs:=[.tmp 6,.tmp 7]))
   | false =>
     have hd:=VD t c v h hce hb
     by_cases hE:jI t c v = 0
     ·have hL:JT t c v = qO t c v:=by unfold JT;rw [if_pos (by rw [hR2,hE])]
      rw [hE] at hR2 hd
      rw [hL,hR2]
      generalize qO t c v = L at *
      have hd:qx C1.P 60 [.os 0 0 t.length,.agg c.row,.v (.int .i64 v)] [.own false 4 (t.map Ent.row)] (.tup [.os 1 0 L.length,.v (.int .i64 0)]) [.dead,.own false 4 (L.map Ent.row)]:=hd
      refine qa Tryd.func38 rfl _ Tryd.ntmps38 (Nat.le_of_ble_eq_true rfl) _ Tryd.results38 0 rfl rfl ?_
      repeat' (first|refine qj ?_|(first|refine jH Tryd.func58 (h1 ..) ?_|refine jH Tryd.func59 (h2 ..) ?_|(apply jo Tryd.func39 rfl rfl;intro hIsFn;refine zY ([]) hIsFn (h3 ..) ?_)|(apply jo Tryd.func60 rfl rfl;intro hIsFn;refine yV ([1]) 1 hIsFn (hd ..) ?_))|((first|refine xsC ?_ ?_);all_goals (intro hc;have hp:=hc;try simp at hp;try (exfalso;omega)))|refine qD ?_ ?_)
      all_goals try (exfalso;omega)
      (exact zh (rs:=[.tmp 6,.tmp 7]))
     ·rw [hbadL (by rw [hR2];exact hE),hR2]
      generalize jI t c v = E at *
      generalize qO t c v = L at *
      have hd:qx C1.P 60 [.os 0 0 t.length,.agg c.row,.v (.int .i64 v)] [.own false 4 (t.map Ent.row)] (.tup [.sl true [],.v (.int .i64 E)]) [.dead,.own false 4 (L.map Ent.row)]:=by
       rw [wl,if_neg hE] at hd;exact hd
      refine qa Tryd.func38 rfl _ Tryd.ntmps38 (Nat.le_of_ble_eq_true rfl) _ Tryd.results38 0 rfl rfl ?_
      repeat' (first|refine qj ?_|(first|refine jH Tryd.func58 (h1 ..) ?_|refine jH Tryd.func59 (h2 ..) ?_|(apply jo Tryd.func39 rfl rfl;intro hIsFn;refine zY ([]) hIsFn (h3 ..) ?_)|(apply jo Tryd.func60 rfl rfl;intro hIsFn;refine yV ([1]) 1 hIsFn (hd ..) ?_))|((first|refine xsC ?_ ?_);all_goals (intro hc;have hp:=hc;try simp at hp;try (exfalso;omega)))|refine qD ?_ ?_)
      all_goals try (exfalso;omega)
      (exact zh (rs:=[.tmp 6,.tmp 7]))
  ·have hR2:xr t c v = xy t c:=by rw [hR,if_neg (by simp [hce]),if_pos hme]
   rw [hce] at h1
   rw [hbadL (by rw [hR2];exact hme),hR2]
   generalize xy t c = E at *
   refine qa Tryd.func38 rfl _ Tryd.ntmps38 (Nat.le_of_ble_eq_true rfl) _ Tryd.results38 0 rfl rfl ?_
   repeat' (first|refine qj ?_|(first|refine jH Tryd.func58 (h1 ..) ?_|refine jH Tryd.func59 (h2 ..) ?_)|((first|refine xsC ?_ ?_);all_goals (intro hc;have hp:=hc;try simp at hp;try (exfalso;omega)))|refine qD ?_ ?_)
   all_goals try (exfalso;omega)
   (exact zh (rs:=[.tmp 6,.tmp 7]))
 ·have hR2:xr t c v = yo c:=by rw [hR,if_pos hce]
  rw [hbadL (by rw [hR2];exact hce),hR2]
  generalize yo c = E at *
  refine qa Tryd.func38 rfl _ Tryd.ntmps38 (Nat.le_of_ble_eq_true rfl) _ Tryd.results38 0 rfl rfl ?_
  repeat' (first|refine qj ?_|(first|refine jH Tryd.func58 (h1 ..) ?_)|((first|refine xsC ?_ ?_);all_goals (intro hc;have hp:=hc;try simp at hp;try (exfalso;omega)))|refine qD ?_ ?_)
  all_goals try (exfalso;omega)
  (exact zh (rs:=[.tmp 6,.tmp 7]))
end Go.Proofs.YtnhpclmbhbblbaaDoor
set_option linter.unusedSimpArgs false
set_option linter.unnecessarySimpa false
set_option linter.unusedVariables false
namespace Go.Proofs.YtnhpclmbhbblbaaDoor
open Go.Op
def qB (t:List Ent) (p:qv):Option Ent:=t.find? (atP p)
theorem Y8 {t:List Ent} {p:qv}:jY t p = (qB t p).isSome:=by
 unfold jY qB
 rw [Bool.eq_iff_iff,List.any_eq_true,List.find?_isSome]
end Go.Proofs.YtnhpclmbhbblbaaDoor
set_option linter.unusedSimpArgs false
set_option linter.unnecessarySimpa false
set_option linter.unusedVariables false
namespace Go.Ab
theorem Vv {C:Cx} {ts:List (Nat × AV)} {hs:List (Nat × HB)} {nx:Nat} (i n:Nat) {off len:Nat} {rows:List (List AV)} (hi:qk ts i = .os n off len) (hn:qq hs n = .fz rows) (hl:off + len ≤ rows.length):Red C ⟨ts,hs,nx⟩ ⟨(i,.sl false ((rows.drop off).take len)) :: ts,hs,nx⟩:=by
 intro B a w hB ⟨g1,g2,F,ρ,hp,g4⟩
 refine ⟨g1,g2,F,ρ, { kept:=hp.kept,agree:=hp.agree,grow:=hp.grow,fresh:=hp.fresh,names:=hp.names,dom:=hp.dom,own:=hp.own,new:=hp.new,sep:=hp.sep },fun m=>?_⟩
 show M F ρ _ (qk ((i,_) :: ts) m)
 rw [xK]
 by_cases him:i = m
 ·subst him
  rw [if_pos rfl]
  have h1:M F ρ _ (qk ts i):=g4 i
  rw [hi] at h1
  have h2:OwnAt F ρ w n (qq hs n):=hp.own n
  exact JC (L:=[]) (rh:=[n]) (h:=qq hs) hn (by simp) hl F ρ ρ w _ (fun m hm=>by obtain rfl:=List.mem_singleton.1 hm;exact h2) (fun a b hm c hc=>by
   rcases hm with h|h
   ·obtain rfl:=h.2;exact hc
   ·cases h) h1
 ·rw [if_neg him]
  exact g4 m
end Go.Ab
set_option maxHeartbeats 1000000
namespace Go.Proofs.YtnhpclmbhbblbaaDoor
open Go.Ab Go.RowKit
set_option maxRecDepth 10000
attribute [local irreducible] Awp jk qG q9 Red qp Go.Ab.Fin qx Rz yS qX qT ResOk jp jd jG qR
theorem x4 {t:List Ent} (h:qu t = 0):t.length ≤ 60 ∧ (∀ x,x ∈ t → ju x = 0) ∧ qV jm t = true ∧ ∀ x,x ∈ t → qW t x = 0:=by
 unfold qu at h
 split at h
 ·exact absurd h (by decide)
 ·split at h
  ·split at h
   ·split at h
    ·exact absurd h (by decide)
    ·split at h
     ·exact absurd h (by decide)
     ·rename_i h1 h2 h3 h4 h5
      refine ⟨by omega,jR.1 h2,h3,fun x hx=>?_⟩
      have h6:(t.any fun x=>decide (¬ qW t x = 0)) = false:=by simpa using h5
      rw [List.any_eq_false] at h6
      simpa using h6 x hx
   ·exact absurd h (by decide)
  ·contradiction
theorem ja {x:Ent} (h:ju x = 0):qg x.path = 0 ∧ ¬ (x.fold = true ∧ ¬ x.text = []) ∧ x.text.length ≤ 300 ∧ yD x.ver = true:=by
 unfold ju at h
 split at h
 ·split at h
  ·exact absurd h (by decide)
  ·split at h
   ·exact absurd h (by decide)
   ·split at h
    ·exact ⟨by assumption,by assumption,by omega,by assumption⟩
    ·exact absurd h (by decide)
 ·contradiction
theorem RightE.of {t:List Ent} (h:qu t = 0):RightE t:=by
 obtain ⟨h1,h2,h3,h4⟩:=x4 h
 exact ⟨h3,fun x hx=>(ja (h2 x hx)).1,by omega⟩
def vQ (t:List Ent) (c:Chg) (v:Int):Int:=if ¬ qu t = 0 then qu t else if yD v = false then 3 else xr t c v
def k4 (t:List Ent) (c:Chg) (v:Int):List Ent:=if vQ t c v = 0 then qO t c v else []
theorem XR (t:List Ent) (c:Chg) (v:Int) (hb:EBig t) (hcs:c.small):yc C.P 25 [qo t,.agg c.row,.v (.int .i64 v)] (.tup [qo (k4 t c v),.v (.int .i64 (vQ t c v))]):=by
 have h1:=v6 t hb
 have h2:=kp v
 have hE:vQ t c v = if ¬ qu t = 0 then qu t else if yD v = false then 3 else xr t c v:=rfl
 have hL:k4 t c v = if vQ t c v = 0 then qO t c v else []:=rfl
 by_cases hte:qu t = 0
 ·have hr:=Y0 t c v (RightE.of hte) hcs
  have hrL:JT t c v = if xr t c v = 0 then qO t c v else []:=rfl
  rw [hte] at h1
  rw [if_neg (by simp [hte])] at hE
  generalize yD v = V at *
  cases V with
  | true =>
    have hE2:vQ t c v = xr t c v:=by rw [hE];simp
    rw [hE2] at hL
    rw [← hL] at hrL
    rw [hrL] at hr
    rw [hE2]
    generalize k4 t c v = L at *
    generalize xr t c v = R at *
    refine qa Tryd.func25 rfl _ Tryd.ntmps25 (Nat.le_of_ble_eq_true rfl) _ Tryd.results25 0 rfl rfl ?_
    repeat' (first|refine qj ?_|(first|(refine jr ?_)|refine jV Tryd.func12 (h1 ..) ?_|refine jH Tryd.func37 (h2 ..) ?_|refine jV Tryd.func38 (hr ..) ?_)|((first|refine xsC ?_ ?_);all_goals (intro hc;have hp:=hc;try simp at hp;try (exfalso;omega)))|refine qD ?_ ?_)
    all_goals try (exfalso;omega)
    (exact zh (rs:=[.tmp 6,.tmp 7]))
  | false =>
    have hE2:vQ t c v = 3:=by rw [hE];simp
    rw [hE2,if_neg (by decide)] at hL
    rw [hE2,hL]
    refine qa Tryd.func25 rfl _ Tryd.ntmps25 (Nat.le_of_ble_eq_true rfl) _ Tryd.results25 0 rfl rfl ?_
    repeat' (first|refine qj ?_|(first|(refine jr ?_)|refine jV Tryd.func12 (h1 ..) ?_|refine jH Tryd.func37 (h2 ..) ?_)|((first|refine xsC ?_ ?_);all_goals (intro hc;have hp:=hc;try simp at hp;try (exfalso;omega)))|refine qD ?_ ?_)
    all_goals try (exfalso;omega)
    (exact zh (rs:=[.tmp 6,.tmp 7]))
 ·rw [if_pos hte] at hE
  have hL2:k4 t c v = []:=by rw [hL,if_neg (by rw [hE];exact hte)]
  rw [hE,hL2]
  generalize qu t = E at *
  refine qa Tryd.func25 rfl _ Tryd.ntmps25 (Nat.le_of_ble_eq_true rfl) _ Tryd.results25 0 rfl rfl ?_
  repeat' (first|refine qj ?_|(first|(refine jr ?_)|refine jV Tryd.func12 (h1 ..) ?_)|((first|refine xsC ?_ ?_);all_goals (intro hc;have hp:=hc;try simp at hp;try (exfalso;omega)))|refine qD ?_ ?_)
  all_goals try (exfalso;omega)
  (exact zh (rs:=[.tmp 6,.tmp 7]))
end Go.Proofs.YtnhpclmbhbblbaaDoor
set_option linter.unusedSimpArgs false
set_option linter.unnecessarySimpa false
set_option linter.unusedVariables false
namespace Go.Proofs.YtnhpclmbhbblbaaDoor
open Go.Op
structure Right (t:List Ent):Prop where
 len:t.length ≤ 60
 ent : ∀ x,x ∈ t → ju x = 0
 rise:qV jm t = true
 par : ∀ x,x ∈ t → q0 t (qm x.path) = 0
theorem zD {t:List Ent}:qu t = 0 ↔ Right t:=by
 constructor
 ·intro h
  obtain ⟨h1,h2,h3,h4⟩:=x4 h
  exact ⟨h1,h2,h3,h4⟩
 ·intro h
  have h1:¬ 60 < t.length:=by have:=h.len;omega
  have h2:t.any (fun x=>decide (qW t x = 5)) = false:=by
   rw [List.any_eq_false];intro x hx
   have:qW t x = 0:=h.par x hx
   simp [this]
  have h3:t.any (fun x=>decide (¬ qW t x = 0)) = false:=by
   rw [List.any_eq_false];intro x hx
   have:qW t x = 0:=h.par x hx
   simp [this]
  unfold qu
  rw [if_neg h1,if_pos (jR.2 h.ent),if_pos h.rise,h2,h3]
  rfl
where names_pos' (p:qv):0 < (qc p).length:=List.length_pos_iff.2 (jL p)
end Go.Proofs.YtnhpclmbhbblbaaDoor
set_option linter.unusedSimpArgs false
set_option linter.unnecessarySimpa false
set_option linter.unusedVariables false
namespace Go.Proofs.YtnhpclmbhbblbaaDoor
open Go.Op
structure Thg where
 kind:Int
 text:qv
 deriving DecidableEq
structure Cpy where
 path:qv
 at_:qv
 deriving DecidableEq
def yt (l:List qv) (s:qv):List qv:=if s ∈ l then l else l.takeWhile (fun x=>bytesLess x s) ++ s :: l.dropWhile (fun x=>bytesLess x s)
structure MS where
 out:List Ent
 cps:List Cpy
def k8 (l:List qv):Prop:=l.Pairwise fun a b=>bytesLess a b = true
theorem Ja : ∀ {t u:List qv},k8 t → k8 u → (∀ x,x ∈ t ↔ x ∈ u) → t = u
 | [],[],_,_,_=>rfl
 | [],y :: u,_,_,h=>absurd ((h y).2 (by simp)) (by simp)
 | x :: t,[],_,_,h=>absurd ((h x).1 (by simp)) (by simp)
 | x :: t,y :: u,ht,hu,h=>by
   have ht1:=List.pairwise_cons.1 ht
   have hu1:=List.pairwise_cons.1 hu
   have hxy:x = y:=by
    rcases List.mem_cons.1 ((h x).1 (by simp)) with h1|h1
    ·exact h1
    ·rcases List.mem_cons.1 ((h y).2 (by simp)) with h2|h2
     ·exact h2.symm
     ·have h3:=ht1.1 y h2
      have h4:=hu1.1 x h1
      rw [XV h3] at h4;cases h4
   subst hxy
   refine congrArg _ (Ja ht1.2 hu1.2 fun z=>⟨fun hz=>?_,fun hz=>?_⟩)
   ·rcases List.mem_cons.1 ((h z).1 (by simp [hz])) with h1|h1
    ·subst h1
     have:=ht1.1 z hz
     rw [vl] at this;cases this
    ·exact h1
   ·rcases List.mem_cons.1 ((h z).2 (by simp [hz])) with h1|h1
    ·subst h1
     have:=hu1.1 z hz
     rw [vl] at this;cases this
    ·exact h1
theorem YU {l:List qv} {s x:qv}:x ∈ yt l s ↔ x = s ∨ x ∈ l:=by
 unfold yt
 split
 ·rename_i h
  constructor
  ·exact .inr
  ·rintro (rfl|h1)
   ·exact h
   ·exact h1
 ·have:l = l.takeWhile (fun x=>bytesLess x s) ++ l.dropWhile (fun x=>bytesLess x s):=List.takeWhile_append_dropWhile.symm
  constructor
  ·intro h
   rcases List.mem_append.1 h with h1|h1
   ·right;rw [this];exact List.mem_append_left _ h1
   ·rcases List.mem_cons.1 h1 with h2|h2
    ·exact .inl h2
    ·right;rw [this];exact List.mem_append_right _ h2
  ·rintro (rfl|h)
   ·exact List.mem_append_right _ (List.mem_cons_self ..)
   ·rw [this] at h
    rcases List.mem_append.1 h with h1|h1
    ·exact List.mem_append_left _ h1
    ·exact List.mem_append_right _ (List.mem_cons_of_mem _ h1)
theorem Y2 : ∀ {l:List qv} {s:qv},k8 l → k8 (yt l s):=by
 intro l s h
 unfold yt
 split
 ·exact h
 ·rename_i hs
  have key : ∀ {l:List qv},k8 l → s ∉ l → k8 (l.takeWhile (fun x=>bytesLess x s) ++ s :: l.dropWhile (fun x=>bytesLess x s)):=by
   intro l
   induction l with
   | nil=>intro _ _;exact List.pairwise_singleton _ _
   | cons a l ih =>
     intro h hs
     have h1:=List.pairwise_cons.1 h
     simp only [List.mem_cons,not_or] at hs
     by_cases ha:bytesLess a s = true
     ·simp only [List.takeWhile_cons,List.dropWhile_cons,ha,if_true,List.cons_append]
      refine List.pairwise_cons.2 ⟨fun y hy=>?_,ih h1.2 hs.2⟩
      rcases List.mem_append.1 hy with h2|h2
      ·exact h1.1 y ((List.takeWhile_sublist _).subset h2)
      ·rcases List.mem_cons.1 h2 with rfl|h2
       ·exact ha
       ·exact h1.1 y ((List.dropWhile_sublist _).subset h2)
     ·have ha' : bytesLess a s = false:=by simpa using ha
      simp only [List.takeWhile_cons,List.dropWhile_cons,ha',Bool.false_eq_true,if_false,List.nil_append]
      have hsa:bytesLess s a = true:=by
       rcases xv s a with h2|h2|h2
       ·exact h2.1
       ·exact absurd h2.1 hs.1
       ·exact absurd h2.1 ha
      refine List.pairwise_cons.2 ⟨fun y hy=>?_,h⟩
      rcases List.mem_cons.1 hy with rfl|h2
      ·exact hsa
      ·exact yB hsa (h1.1 y h2)
  exact key h hs
theorem QQ {L:List qv} : ∀ {l:List qv},k8 l → k8 (L.foldl yt l) ∧ ∀ x,x ∈ L.foldl yt l ↔ x ∈ L ∨ x ∈ l:=by
 induction L with
 | nil=>intro l h;exact ⟨h,fun x=>by simp⟩
 | cons a L ih =>
   intro l h
   obtain ⟨h1,h2⟩:=ih (Y2 (s:=a) h)
   refine ⟨h1,fun x=>?_⟩
   rw [List.foldl_cons,h2,YU,List.mem_cons]
   constructor
   ·rintro (h|h|h)
    ·exact .inl (.inr h)
    ·exact .inl (.inl h)
    ·exact .inr h
   ·rintro ((h|h)|h)
    ·exact .inr (.inl h)
    ·exact .inl h
    ·exact .inr (.inr h)
end Go.Proofs.YtnhpclmbhbblbaaDoor
