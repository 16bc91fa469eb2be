import Derived.Test.YtnhpclmbhbblbaaDoorMz9
import Derived.Test.YtnhpclmbhbblbaaDoorMz8
set_option linter.unusedSimpArgs false
set_option linter.unnecessarySimpa false
set_option linter.unusedVariables false
set_option maxHeartbeats 1000000
namespace Go.Proofs.YtnhpclmbhbblbaaDoor
open Go.Ab Go.RowKit
set_option maxRecDepth 10000
attribute [local irreducible] Awp jk qG q9 Red qp Go.Ab.Fin qx Rz yS qX qT ResOk jp jd jG qR
def jv (p:Ent → Bool) (t:List Ent):List Ent:=t.filter fun x => !p x
theorem kP {p:Ent → Bool} {t:List Ent} {j:Nat} (h:j < t.length):jv p (t.take (j + 1)) = if p t[j] = true then jv p (t.take j) else jv p (t.take j) ++ [t[j]]:=by
 unfold jv
 rw [List.take_succ_eq_append_getElem h,List.filter_append]
 cases hs:p t[j]<;>simp [hs]
theorem Ys (p:Ent → Bool) (t:List Ent) (j:Nat) (hj:j ≤ t.length):(jv p (t.take j)).length ≤ j:=by
 have h1:(jv p (t.take j)).length ≤ (t.take j).length:=List.length_filter_le ..
 simp at h1;omega
theorem wP (p:Ent → Bool) (g:FuncId) (hg:IsFn C1.P g) (cap:List AV) (hcap:AV.pure.pureL cap = true) (t:List Ent) (hl:t.length ≤ 1000000) (hcf : ∀ s,s ∈ t → yc C1.P g (AV.agg s.row :: cap) (.v (.bool (p s)))) :
  qx C1.P 86 [.os 0 0 t.length,.clo (.func g) [] cap] [.own false 4 (t.map Ent.row)] (.os 0 0 (jv p t).length) [.own false 4 ((jv p t).map Ent.row)]:=by
 have hidx:=QW p g hg cap hcap t hl hcf
 refine qa (C:=C1) Tryd.func86 rfl _ Tryd.ntmps86 (Nat.le_of_ble_eq_true rfl) _ Tryd.results86 1 rfl rfl ?_
 rcases yF p t with ⟨h1,h2⟩|⟨k,hk,h1,h2,h3⟩
 ·have hall:jv p t = t:=List.filter_eq_self.2 fun x hx=>by rw [h2 x hx];rfl
  rw [h1] at hidx
  rw [hall]
  repeat' (first|refine qj ?_|(first|(apply qh;apply yl ([0]);exact jJ Tryd.func84 rfl rfl;exact hidx;(case hz=>(exact qw (yf rfl (by simp) (jl fun _=>rfl)) (qw (vn hcap) qS)));(case hfl=>rfl);(case hN=>exact nle rfl)))|((first|refine qe ?_ ?_|refine qf ?_ ?_|refine xsC ?_ ?_);all_goals (intro hc;have hp:=hc;try simp at hp;try (exfalso;omega)))|refine qD ?_ ?_)
  all_goals try (exfalso;omega)
  (refine J9 (rs:=[.tmp 4]) [] 1 ?_;(repeat (first|exact qr|refine jT ?_|refine jb ?_ ?_));all_goals trace_state)
 ·rw [h1] at hidx
  have hk1:jv p (t.take (k + 1)) = t.take k:=by
   rw [kP hk,if_pos h3]
   exact List.filter_eq_self.2 fun x hx=>by rw [h2 x hx];rfl
  repeat' (first|refine qj ?_|(first|(apply qh;apply yl ([0]);exact jJ Tryd.func84 rfl rfl;exact hidx;(case hz=>(exact qw (yf rfl (by simp) (jl fun _=>rfl)) (qw (vn hcap) qS)));(case hfl=>rfl);(case hN=>exact nle rfl)))|((first|refine qe ?_ ?_|refine qf ?_ ?_|refine xsC ?_ ?_);all_goals (intro hc;have hp:=hc;try simp at hp;try (exfalso;omega)))|refine qD ?_ ?_)
  all_goals try (exfalso;omega)
  (refine Awp.red (je (τ:=⟨[(0,.os 0 0 t.length),(1,.clo (.func g) [] cap),(5,.v (.int .i64 (k:Int))),(6,.v (.int .i64 ((k:Int) + 1)))],[(0,.own false 4 (t.map Ent.row))],1⟩) [] rfl ?gts ?ghs) ?gmain;(case gts=>(repeat (first|exact qd|refine qn ?_|refine xd ?_|refine vH ?_|refine qM ?_ ?_)));(case ghs=>(repeat (first|exact qr|refine jT ?_|refine jb ?_ ?_))))
  refine qy (C:=C1) (fun n σ => ∃ (j:Nat) (E:List Ent),k + 1 ≤ j ∧ j ≤ t.length ∧ n = t.length - j ∧ E.length = t.length ∧ E.take (jv p (t.take j)).length = jv p (t.take j) ∧ E.drop j = t.drop j ∧ σ = ⟨[(0,.os 0 0 t.length),(1,.clo (.func g) [] cap),(5,.v (.int .i64 ((jv p (t.take j)).length:Int))),(6,.v (.int .i64 (j:Int)))],[(0,.own false 4 (E.map Ent.row))],1⟩) (t.length - (k + 1)) ⟨k + 1,t,Nat.le_refl _,hk,rfl,rfl,(by rw [hk1];simp),rfl,?_⟩ ?_
  ·have htl:(t.take k).length = k:=by simp;omega
   rw [hk1,htl];rfl
  rintro n σ ⟨j,E,hkj,hj,rfl,hEl,hEt,hEd,rfl⟩
  have hil:=Ys p t j hj
  by_cases hlt:j < t.length
  ·have hej:E[j]'(by omega) = t[j]:=by
    have h:=congrArg (fun l=>l[0]?) hEd
    simp only [List.getElem?_drop,Nat.add_zero] at h
    rw [List.getElem?_eq_getElem (by omega),List.getElem?_eq_getElem hlt] at h
    exact Option.some.inj h
   have hr:=qL (f:=Ent.row) (l:=E) (i:=j) (by omega)
   rw [hej] at hr
   have hci:=hcf t[j] (List.getElem_mem _)
   have hks := @kP p t j hlt
   have hEd2:E.drop (j + 1) = t.drop (j + 1):=by rw [← List.drop_drop,hEd,List.drop_drop]
   have hml:(E.map Ent.row).length = E.length:=List.length_map ..
   have hrw : ∀ i:Nat,i < E.length → (E.map Ent.row)[i]? = some (E[i]?.getD t[j]).row:=fun i hi=>by
    rw [List.getElem?_map,List.getElem?_eq_getElem hi];rfl
   have hri:=hrw (jv p (t.take j)).length (by omega)
   generalize hI:(jv p (t.take j)).length = i at *
   generalize p t[j] = P at *
   cases P with
   | true =>
     rw [if_pos rfl] at hks
     repeat' (first|refine qj ?_|(first|(refine vx ?_)|(apply qh;apply zd [];rfl;exact hg;exact hci;(case hz=>exact qw (qK rfl) (kq hcap));(case hfl=>rfl);(case hN=>exact nle rfl)))|((first|refine qe ?_ ?_|refine qf ?_ ?_|refine xsC ?_ ?_);all_goals (intro hc;have hp:=hc;try simp at hp;try (exfalso;omega)))|refine qD ?_ ?_)
     all_goals try (exfalso;omega)
     refine ⟨t.length - (j + 1),_,by omega,je (τ:=⟨[(0,.os 0 0 t.length),(1,.clo (.func g) [] cap),(5,.v (.int .i64 ((jv p (t.take (j + 1))).length:Int))),(6,.v (.int .i64 ((j + 1:Nat):Int)))],[(0,.own false 4 (List.map Ent.row E))],1⟩) [] rfl ?gts ?ghs,j + 1,E,by omega,by omega,rfl,hEl,(by rw [hks,hI];exact hEt),hEd2,rfl⟩;(case gts=>(repeat (first|exact qd|refine qn ?_|refine xd ?_|refine vH ?_|refine qM ?_ ?_));all_goals (rw [hks,hI]));(case ghs=>(repeat (first|exact qr|refine jT ?_|refine jb ?_ ?_));all_goals skip)
   | false =>
     rw [if_neg (by decide)] at hks
     have hlen1:(jv p (t.take (j + 1))).length = i + 1:=by rw [hks,List.length_append,hI];rfl
     have hset:(E.set i t[j]).take (i + 1) = jv p (t.take (j + 1)):=by
      rw [hks,List.take_set, ← hEt,List.take_succ_eq_append_getElem (by omega)]
      rw [List.set_append_right _ _ (by simp;omega)]
      simp [show i - min i E.length = 0 from by omega]
     have hdr:(E.set i t[j]).drop (j + 1) = t.drop (j + 1):=by rw [List.drop_set_of_lt (by omega)];exact hEd2
     repeat' (first|refine qj ?_|(first|(refine vx ?_)|(apply qh;apply zd [];rfl;exact hg;exact hci;(case hz=>exact qw (qK rfl) (kq hcap));(case hfl=>rfl);(case hN=>exact nle rfl)))|((first|refine qe ?_ ?_|refine qf ?_ ?_|refine xsC ?_ ?_);all_goals (intro hc;have hp:=hc;try simp at hp;try (exfalso;omega)))|refine qD ?_ ?_)
     all_goals try (exfalso;omega)
     refine ⟨t.length - (j + 1),_,by omega,je (τ:=⟨[(0,.os 0 0 t.length),(1,.clo (.func g) [] cap),(5,.v (.int .i64 ((jv p (t.take (j + 1))).length:Int))),(6,.v (.int .i64 ((j + 1:Nat):Int)))],[(0,.own false 4 (List.map Ent.row (E.set i t[j])))],1⟩) [] rfl ?gts ?ghs,j + 1,(E.set i t[j]),by omega,by omega,rfl,(by rw [List.length_set];exact hEl),(by rw [hlen1];exact hset),hdr,rfl⟩;(case gts=>(repeat (first|exact qd|refine qn ?_|refine xd ?_|refine vH ?_|refine qM ?_ ?_));all_goals (rw [hlen1]));(case ghs=>(repeat (first|exact qr|refine jT ?_|refine jb ?_ ?_));all_goals (rw [List.map_set];rfl))
  obtain rfl:j = t.length:=by omega
  rw [List.take_length] at *
  repeat' (first|refine qj ?_|(first|(refine Xq ?_)|(refine V1 ?_))|((first|refine qe ?_ ?_|refine qf ?_ ?_|refine xsC ?_ ?_);all_goals (intro hc;have hp:=hc;try simp at hp;try (exfalso;omega)))|refine qD ?_ ?_)
  all_goals try (exfalso;omega)
  apply XZ (C:=C1) 0 (jv p t).length
  case hn=>rfl
  case hr =>
   refine Eq.trans (b:=(jv p t).map Ent.row) ?_ rfl
   rw [List.append_assoc,List.take_append_of_le_length (by simp;omega),Nat.zero_add,List.take_take,Nat.min_self, ← List.map_take,hEt]
  (apply yC (rs:=[.tmp 4]) [] 1;(case hr=>(repeat (first|exact jB|(apply jA;rfl)|(apply jE;rfl;rfl;rfl;rfl;rfl))));(case hL=>rfl);(case hh=>(repeat (first|exact qr|refine jT ?_|refine jb ?_ ?_));all_goals trace_state);(case hi=>first|exact (rfl:_ = ([]:List (Nat × Nat)))|exact (rfl:_ = [((0:Nat),(0:Nat))])|exact (rfl:_ = [((0:Nat),(0:Nat)),(1,1)]));(case hz=>first|rfl|(simp [j6,AV.ren,AV.ren.renL,jz,qk,jx];done)|(simp [j6,AV.ren,AV.ren.renL,jz,qk,jx, *];done)|(simp [j6,AV.ren,AV.ren.renL,jz,qk,jx];omega)))
def wG (p:qv) (x:Ent):Bool:=inB x.path p
theorem JS (x:Ent) (p:qv) (hp:p.length ≤ 140737488355328):yc C.P 87 [.agg x.row,.fp [[.v (str p)]] 0 0] (.v (.bool (wG p x))):=by
 have hin:=Yn x.path p hp
 refine qa Tryd.func87 rfl _ Tryd.ntmps87 (Nat.le_of_ble_eq_true rfl) _ Tryd.results87 0 rfl rfl ?_
 repeat' (first|refine qj ?_|(first|refine jH Tryd.func70 (hin ..) ?_)|((first|refine xsC ?_ ?_);all_goals (intro hc;have hp:=hc;try simp at hp;try (exfalso;omega)))|refine qD ?_ ?_)
 all_goals (apply q8;rfl;rfl)
theorem wD (t:List Ent) (p:qv) (hl:t.length ≤ 1000000) (hpl:p.length ≤ 140737488355328) :
  qx C1.P 74 [.os 0 0 t.length,.v (str p)] [.own false 4 (t.map Ent.row)] (.os 0 0 (jv (wG p) t).length) [.own false 4 ((jv (wG p) t).map Ent.row)]:=by
 have hdel:=wP (wG p) 87 (jJ Tryd.func87 rfl rfl) [.fp [[.v (str p)]] 0 0] rfl t hl (fun x _=>JS x p hpl)
 refine qa (C:=C1) Tryd.func74 rfl _ Tryd.ntmps74 (Nat.le_of_ble_eq_true rfl) _ Tryd.results74 1 rfl rfl ?_
 (repeat apply Qe);apply vY;(repeat' (first|apply kU|refine Zl ?_|refine Zp ?_|refine V8 ?_|refine V9 ?_|refine Zs ?_|refine Zd ?_|refine Zj ?_|refine Zm ?_|refine Zk ?_|refine Za ?_|refine Zr ?_|refine Ze ?_|refine Zg ?_|refine Zn ?_|refine Zi ?_|refine Zo ?_|refine Zc ?_|refine V4 ?_|(first|fail)|refine VY ?_|refine VO ?_|refine Vw ?_|refine XW ?_|refine Vp ?_|refine V5 ?_|refine VS ?_|refine VM ?_|refine VA ?_|((first|refine qe ?_ ?_|refine qf ?_ ?_);all_goals (intro hc;have hp:=hc;try simp at hp;try (exfalso;omega)))));show Awp _ _ _ _ _
 refine Zx 3 1 ?_
 repeat' (first|refine qj ?_|(first|(apply jo Tryd.func86 rfl rfl;intro hIsFn;refine xO ([0]) 0 hIsFn (hdel ..) ?_))|((first|refine qe ?_ ?_|refine qf ?_ ?_|refine xsC ?_ ?_);all_goals (intro hc;have hp:=hc;try simp at hp;try (exfalso;omega)))|refine qD ?_ ?_)
 all_goals try (exfalso;omega)
 (apply yC (rs:=[.tmp 4]) [] 1;(case hr=>(repeat (first|exact jB|(apply jA;rfl)|(apply jE;rfl;rfl;rfl;rfl;rfl))));(case hL=>rfl);(case hh=>(repeat (first|exact qr|refine jT ?_|refine jb ?_ ?_));all_goals trace_state);(case hi=>first|exact (rfl:_ = ([]:List (Nat × Nat)))|exact (rfl:_ = [((0:Nat),(0:Nat))])|exact (rfl:_ = [((0:Nat),(0:Nat)),(1,1)]));(case hz=>first|rfl|(simp [j6,AV.ren,AV.ren.renL,jz,qk,jx];done)|(simp [j6,AV.ren,AV.ren.renL,jz,qk,jx, *];done)|(simp [j6,AV.ren,AV.ren.renL,jz,qk,jx];omega)))
end Go.Proofs.YtnhpclmbhbblbaaDoor
set_option linter.unusedSimpArgs false
set_option linter.unnecessarySimpa false
set_option linter.unusedVariables false
set_option maxHeartbeats 1000000
namespace Go.Proofs.YtnhpclmbhbblbaaDoor
open Go.Ab Go.RowKit
set_option maxRecDepth 10000
attribute [local irreducible] Awp jk qG q9 Red qp Go.Ab.Fin qx Rz yS qX qT ResOk jp jd jG qR
def yd (c:Chg) (v:Int) (x:Ent):Ent:=⟨c.to ++ x.path.drop c.path.length,x.fold,x.text,if x.path = c.path then v else x.ver⟩
def qU (t:List Ent) (c:Chg) (v:Int):List Ent:=(t.filter (wG c.path)).map (yd c v)
def qO (t:List Ent) (c:Chg) (v:Int):List Ent :=
 if c.kind = 1 then jW t ⟨c.path,true,[],v⟩
 else if c.kind = 2 then jW t ⟨c.path,false,c.text,v⟩
 else if c.kind = 4 then jv (wG c.path) t
 else (qU t c v).foldl jW (jv (wG c.path) t)
def jU (t:List Ent) (c:Chg):Bool:=decide (c.kind = 3) && (t.filter (wG c.path)).any fun x=>qN (c.to ++ x.path.drop c.path.length)
def jI (t:List Ent) (c:Chg) (v:Int):Int:=if jU t c = true then 2 else if 60 < (qO t c v).length then 2 else 0
def wl (e:Int) (n:Nat):AV:=if e = 0 then .tup [.os 1 0 n,.v (.int .i64 0)] else .tup [.sl true [],.v (.int .i64 e)]
theorem Vl (t:List Ent) (c:Chg) (v:Int) (hl:t.length ≤ 1000000) (hs:qV jm t = true) (hk:c.kind = 1) (hlen:(qO t c v).length ≤ 1000001) :
  qx C1.P 60 [.os 0 0 t.length,.agg c.row,.v (.int .i64 v)] [.own false 4 (t.map Ent.row)] (wl (jI t c v) (qO t c v).length) [.dead,.own false 4 ((qO t c v).map Ent.row)]:=by
 have hput:qx C1.P 73 [.os 0 0 t.length,.agg [.v (str c.path),.v (.bool true),.v (str []),.v (.int .i64 v)]] [.own false 4 (t.map Ent.row)] _ _:=Xj t ⟨c.path,true,[],v⟩ hl hs
 have hD:qO t c v = jW t ⟨c.path,true,[],v⟩:=by simp [qO,hk]
 have hE:jI t c v = if 60 < (qO t c v).length then 2 else 0:=by simp [jI,jU,hk]
 rw [← hD] at hput
 generalize jI t c v = E at *
 generalize qO t c v = L at *
 by_cases h60:60 < L.length
 ·rw [if_pos h60] at hE
  subst hE
  refine qa (C:=C1) Tryd.func60 rfl _ Tryd.ntmps60 (Nat.le_of_ble_eq_true rfl) _ Tryd.results60 1 rfl rfl ?_
  repeat' (first|refine qj ?_|(first|(apply jo Tryd.func73 rfl rfl;intro hIsFn;refine yV ([0]) 0 hIsFn (hput ..) ?_))|((first|refine qe ?_ ?_|refine qf ?_ ?_|refine xsC ?_ ?_);all_goals (intro hc;have hp:=hc;try simp at hp;try (exfalso;omega)))|refine qD ?_ ?_)
  all_goals try (exfalso;omega)
  (refine J9 (rs:=[.tmp 6,.tmp 7]) [(2,1)] 2 ?_;(apply jq 0;exact qA rfl;(repeat (first|exact qr|refine jT ?_|refine jb ?_ ?_)));all_goals trace_state)
 ·rw [if_neg h60] at hE
  subst hE
  refine qa (C:=C1) Tryd.func60 rfl _ Tryd.ntmps60 (Nat.le_of_ble_eq_true rfl) _ Tryd.results60 1 rfl rfl ?_
  repeat' (first|refine qj ?_|(first|(apply jo Tryd.func73 rfl rfl;intro hIsFn;refine yV ([0]) 0 hIsFn (hput ..) ?_))|((first|refine qe ?_ ?_|refine qf ?_ ?_|refine xsC ?_ ?_);all_goals (intro hc;have hp:=hc;try simp at hp;try (exfalso;omega)))|refine qD ?_ ?_)
  all_goals try (exfalso;omega)
  (refine J9 (rs:=[.tmp 6,.tmp 7]) [(2,1)] 2 ?_;(apply jq 0;exact qA rfl;(repeat (first|exact qr|refine jT ?_|refine jb ?_ ?_)));all_goals trace_state)
theorem Vb (t:List Ent) (c:Chg) (v:Int) (hl:t.length ≤ 1000000) (hs:qV jm t = true) (hk:c.kind = 2) (hlen:(qO t c v).length ≤ 1000001) :
  qx C1.P 60 [.os 0 0 t.length,.agg c.row,.v (.int .i64 v)] [.own false 4 (t.map Ent.row)] (wl (jI t c v) (qO t c v).length) [.dead,.own false 4 ((qO t c v).map Ent.row)]:=by
 have hput:qx C1.P 73 [.os 0 0 t.length,.agg [.v (str c.path),.v (.bool false),.v (str c.text),.v (.int .i64 v)]] [.own false 4 (t.map Ent.row)] _ _:=Xj t ⟨c.path,false,c.text,v⟩ hl hs
 have hD:qO t c v = jW t ⟨c.path,false,c.text,v⟩:=by simp [qO,hk]
 have hE:jI t c v = if 60 < (qO t c v).length then 2 else 0:=by simp [jI,jU,hk]
 rw [← hD] at hput
 generalize jI t c v = E at *
 generalize qO t c v = L at *
 by_cases h60:60 < L.length
 ·rw [if_pos h60] at hE
  subst hE
  refine qa (C:=C1) Tryd.func60 rfl _ Tryd.ntmps60 (Nat.le_of_ble_eq_true rfl) _ Tryd.results60 1 rfl rfl ?_
  repeat' (first|refine qj ?_|(first|(apply jo Tryd.func73 rfl rfl;intro hIsFn;refine yV ([0]) 0 hIsFn (hput ..) ?_))|((first|refine qe ?_ ?_|refine qf ?_ ?_|refine xsC ?_ ?_);all_goals (intro hc;have hp:=hc;try simp at hp;try (exfalso;omega)))|refine qD ?_ ?_)
  all_goals try (exfalso;omega)
  (refine J9 (rs:=[.tmp 6,.tmp 7]) [(2,1)] 2 ?_;(apply jq 0;exact qA rfl;(repeat (first|exact qr|refine jT ?_|refine jb ?_ ?_)));all_goals trace_state)
 ·rw [if_neg h60] at hE
  subst hE
  refine qa (C:=C1) Tryd.func60 rfl _ Tryd.ntmps60 (Nat.le_of_ble_eq_true rfl) _ Tryd.results60 1 rfl rfl ?_
  repeat' (first|refine qj ?_|(first|(apply jo Tryd.func73 rfl rfl;intro hIsFn;refine yV ([0]) 0 hIsFn (hput ..) ?_))|((first|refine qe ?_ ?_|refine qf ?_ ?_|refine xsC ?_ ?_);all_goals (intro hc;have hp:=hc;try simp at hp;try (exfalso;omega)))|refine qD ?_ ?_)
  all_goals try (exfalso;omega)
  (refine J9 (rs:=[.tmp 6,.tmp 7]) [(2,1)] 2 ?_;(apply jq 0;exact qA rfl;(repeat (first|exact qr|refine jT ?_|refine jb ?_ ?_)));all_goals trace_state)
theorem Vn (t:List Ent) (c:Chg) (v:Int) (hl:t.length ≤ 1000000) (hk:c.kind = 4) (hpl:c.path.length ≤ 140737488355328) :
  qx C1.P 60 [.os 0 0 t.length,.agg c.row,.v (.int .i64 v)] [.own false 4 (t.map Ent.row)] (wl (jI t c v) (qO t c v).length) [.dead,.own false 4 ((qO t c v).map Ent.row)]:=by
 have hwo:=wD t c.path hl hpl
 have hD:qO t c v = jv (wG c.path) t:=by simp [qO,hk]
 have hE:jI t c v = if 60 < (qO t c v).length then 2 else 0:=by simp [jI,jU,hk]
 have hlen:(qO t c v).length ≤ t.length:=by rw [hD];exact List.length_filter_le ..
 rw [← hD] at hwo
 generalize jI t c v = E at *
 generalize qO t c v = L at *
 by_cases h60:60 < L.length
 ·rw [if_pos h60] at hE
  subst hE
  refine qa (C:=C1) Tryd.func60 rfl _ Tryd.ntmps60 (Nat.le_of_ble_eq_true rfl) _ Tryd.results60 1 rfl rfl ?_
  repeat' (first|refine qj ?_|(first|(apply jo Tryd.func74 rfl rfl;intro hIsFn;refine xO ([0]) 0 hIsFn (hwo ..) ?_))|((first|refine qe ?_ ?_|refine qf ?_ ?_|refine xsC ?_ ?_);all_goals (intro hc;have hp:=hc;try simp at hp;try (exfalso;omega)))|refine qD ?_ ?_)
  all_goals try (exfalso;omega)
  apply zl (C:=C1) 0 0 L.length
  case hi=>rfl
  case hn=>rfl
  case hr=>exact (List.take_of_length_le (by simp))
  case hnn=>exact Nat.ne_of_beq_eq_false rfl
  case hnx=>exact Nat.le_of_ble_eq_true rfl
  (refine J9 (rs:=[.tmp 6,.tmp 7]) [(2,1)] 2 ?_;(apply jq 0;exact qA rfl;(repeat (first|exact qr|refine jT ?_|refine jb ?_ ?_)));all_goals trace_state)
 ·rw [if_neg h60] at hE
  subst hE
  refine qa (C:=C1) Tryd.func60 rfl _ Tryd.ntmps60 (Nat.le_of_ble_eq_true rfl) _ Tryd.results60 1 rfl rfl ?_
  repeat' (first|refine qj ?_|(first|(apply jo Tryd.func74 rfl rfl;intro hIsFn;refine xO ([0]) 0 hIsFn (hwo ..) ?_))|((first|refine qe ?_ ?_|refine qf ?_ ?_|refine xsC ?_ ?_);all_goals (intro hc;have hp:=hc;try simp at hp;try (exfalso;omega)))|refine qD ?_ ?_)
  all_goals try (exfalso;omega)
  apply zl (C:=C1) 6 0 L.length
  case hi=>rfl
  case hn=>rfl
  case hr=>exact (List.take_of_length_le (by simp))
  case hnn=>exact Nat.ne_of_beq_eq_false rfl
  case hnx=>exact Nat.le_of_ble_eq_true rfl
  (refine J9 (rs:=[.tmp 6,.tmp 7]) [(2,1)] 2 ?_;(apply jq 0;exact qA rfl;(repeat (first|exact qr|refine jT ?_|refine jb ?_ ?_)));all_goals trace_state)
end Go.Proofs.YtnhpclmbhbblbaaDoor
set_option linter.unusedSimpArgs false
set_option linter.unnecessarySimpa false
set_option linter.unusedVariables false
namespace Go.Proofs.YtnhpclmbhbblbaaDoor
open Go.Op
theorem XV {a b:qv} (h:bytesLess a b = true):bytesLess b a = false:=by
 cases e:bytesLess b a
 ·rfl
 ·have:=yB h e
  rw [vl] at this;cases this
theorem Vr {a b:qv} (h:bytesLess a b = true):¬ a = b:=fun e=>by rw [e,vl] at h;cases h
theorem VP {a b:qv} (h1:bytesLess a b = false) (h2:¬ a = b):bytesLess b a = true:=by
 rcases xv a b with ⟨h,_,_⟩|⟨h,_,_⟩|⟨h,_,_⟩
 ·rw [h] at h1;cases h1
 ·exact absurd h h2
 ·exact h
theorem XE (p:qv) : ∀ {t:List Ent},t.Pairwise (fun a b=>bytesLess a.path b.path = true) → ∃ A M Z,t = A ++ (M ++ Z) ∧ jC t p = A.length ∧ (∀ a,a ∈ A → bytesLess a.path p = true) ∧ (∀ z,z ∈ Z → bytesLess p z.path = true) ∧
  ((jY t p = true ∧ ∃ x,M = [x] ∧ x.path = p) ∨ (jY t p = false ∧ M = []))
 | [],_=>⟨[],[],[],rfl,rfl,nofun,nofun,.inr ⟨rfl,rfl⟩⟩
 | x :: l,h=>by
   obtain ⟨h1,h2⟩:=List.pairwise_cons.1 h
   by_cases hx:bytesLess x.path p = true
   ·obtain ⟨A,M,Z,rfl,hp,hA,hZ,hM⟩:=XE p h2
    have hp' : jC (x :: (A ++ (M ++ Z))) p = A.length + 1:=by
     simp only [jC,List.takeWhile_cons,hx,if_true,List.length_cons] at hp ⊢;omega
    have hh:jY (x :: (A ++ (M ++ Z))) p = jY (A ++ (M ++ Z)) p:=by
     simp [jY,atP,Vr hx]
    refine ⟨x :: A,M,Z,rfl,hp',fun a ha=>?_,hZ,by rw [hh];exact hM⟩
    rcases List.mem_cons.1 ha with rfl|ha
    ·exact hx
    ·exact hA a ha
   ·have hx:bytesLess x.path p = false:=by simpa using hx
    have hp:jC (x :: l) p = 0:=by simp [jC,List.takeWhile_cons,hx]
    by_cases e:x.path = p
    ·subst e
     exact ⟨[],[x],l,rfl,hp,nofun,fun z hz=>h1 z hz,.inl ⟨by simp [jY,atP],x,rfl,rfl⟩⟩
    ·have hg:=VP hx e
     have hall : ∀ z,z ∈ x :: l → bytesLess p z.path = true:=fun z hz=>by
      rcases List.mem_cons.1 hz with rfl|hz
      ·exact hg
      ·exact yB hg (h1 z hz)
     refine ⟨[],[],x :: l,rfl,hp,nofun,hall,.inr ⟨List.any_eq_false.2 fun z hz=>?_,rfl⟩⟩
     have:=Vr (hall z hz)
     simp only [atP,decide_eq_true_eq]
     exact fun e=>this e.symm
theorem JQ {t A M Z:List Ent} {x:Ent} (h:t = A ++ (M ++ Z)) (hp:jC t x.path = A.length) (hM:(jY t x.path = true ∧ ∃ y,M = [y] ∧ y.path = x.path) ∨ (jY t x.path = false ∧ M = [])):jW t x = A ++ ([x] ++ Z):=by
 unfold jW
 rw [hp]
 have h1:t.take A.length = A:=by rw [h];simp
 rw [h1]
 rcases hM with ⟨hh,y,rfl,_⟩|⟨hh,rfl⟩
 ·simp only [hh,if_true];rw [h];simp
 ·simp only [hh,Bool.false_eq_true,if_false];rw [h];simp
theorem QX (t:List Ent) (x:Ent):(jW t x).length ≤ t.length + 1:=by
 unfold jW;split<;>simp<;>omega
theorem vd {t:List Ent} {x:Ent} (hs:qV jm t = true):qV jm (jW t x) = true:=by
 have hl:=yn.1 hs
 obtain ⟨A,M,Z,h,hp,hA,hZ,hM⟩:=XE x.path hl
 rw [JQ h hp hM]
 refine yn.2 ?_
 have hsub:(A ++ Z).Sublist t:=by
  rw [h];exact List.Sublist.append_left (List.sublist_append_right _ _) _
 obtain ⟨pA,pZ,pAZ⟩:=List.pairwise_append.1 (hl.sublist hsub)
 refine List.pairwise_append.2 ⟨pA,List.pairwise_cons.2 ⟨fun z hz=>hZ z hz,pZ⟩,fun a ha b hb=>?_⟩
 rcases List.mem_cons.1 hb with rfl|hb
 ·exact hA a ha
 ·exact pAZ a ha b hb
theorem x6 {p:Ent → Bool} {t:List Ent} (hs:qV jm t = true):qV jm (jv p t) = true:=yn.2 ((yn.1 hs).sublist List.filter_sublist)
theorem xq : ∀ {l t:List Ent},qV jm t = true → qV jm (l.foldl jW t) = true
 | [],_,h=>h
 | x :: l,t,h=>xq (l:=l) (vd h)
theorem vS : ∀ (l t:List Ent),(l.foldl jW t).length ≤ t.length + l.length
 | [],_=>by simp
 | x :: l,t=>by
   have h1:=vS l (jW t x)
   have h2:=QX t x
   simp only [List.foldl_cons,List.length_cons];omega
theorem QT {l t:List Ent} {i:Nat} (h:i < l.length):(l.take (i + 1)).foldl jW t = jW ((l.take i).foldl jW t) l[i]:=by
 rw [List.take_succ_eq_append_getElem h,List.foldl_append];rfl
theorem jf {p:qv} (h:qg p = 0):p.length ≤ 80:=by
 have:qN p = false:=by
  unfold qg at h
  split at h
  ·split at h
   ·exact absurd h (by decide)
   ·rename_i h2;simpa using h2
  ·exact absurd h (by decide)
 simp [qN] at this;omega
theorem vm {p f t:qv} (hp:qg p = 0) (hf:qg f = 0) (ht:qg t = 0) (hi:inB p f = true):jP p f t = if qN (t ++ p.drop f.length) = true then 2 else 0:=by
 unfold jP
 rw [if_pos (by simp [jc,hp,hf,ht]),if_pos hi]
theorem wB {t:List Ent} {c:Chg} {v:Int} {i:Nat} (h:i < t.length):qU (t.take (i + 1)) c v = if inB t[i].path c.path = true then qU (t.take i) c v ++ [yd c v t[i]] else qU (t.take i) c v:=by
 unfold qU
 rw [List.take_succ_eq_append_getElem h,List.filter_append]
 cases hs:inB t[i].path c.path<;>simp [hs,wG]
end Go.Proofs.YtnhpclmbhbblbaaDoor
set_option linter.unusedSimpArgs false
set_option linter.unnecessarySimpa false
set_option linter.unusedVariables false
namespace Go.Proofs.YtnhpclmbhbblbaaDoor
open Go.Op
end Go.Proofs.YtnhpclmbhbblbaaDoor
set_option linter.unusedSimpArgs false
set_option linter.unnecessarySimpa false
set_option linter.unusedVariables false
set_option maxHeartbeats 1000000
namespace Go.Proofs.YtnhpclmbhbblbaaDoor
open Go.Ab Go.RowKit
set_option maxRecDepth 10000
attribute [local irreducible] Awp jk qG q9 Red qp Go.Ab.Fin qx Rz yS qX qT ResOk jp jd jG qR
def xX (t:List Ent) (c:Chg) (i:Nat):Bool:=((t.take i).filter (wG c.path)).any fun x=>qN (c.to ++ x.path.drop c.path.length)
theorem XI {t:List Ent} {c:Chg} {i:Nat} (h:i < t.length):xX t c (i + 1) = (xX t c i || (inB t[i].path c.path && qN (c.to ++ t[i].path.drop c.path.length))):=by
 unfold xX
 rw [List.take_succ_eq_append_getElem h,List.filter_append,List.any_append]
 cases hs:inB t[i].path c.path<;>simp [hs,wG]
theorem QL (t:List Ent) (c:Chg) (v:Int) (hl:t.length ≤ 1000000) (hk:c.kind = 3) (hgt : ∀ x,x ∈ t → qg x.path = 0) (hc1:qg c.path = 0) (hc2:qg c.to = 0) (hbad:jU t c = true) :
  qx C1.P 60 [.os 0 0 t.length,.agg c.row,.v (.int .i64 v)] [.own false 4 (t.map Ent.row)] (.tup [.sl true [],.v (.int .i64 2)]) [.own false 4 (t.map Ent.row)]:=by
 have l1:=jf hc1
 have l2:=jf hc2
 have hml:(t.map Ent.row).length = t.length:=List.length_map ..
 refine qa (C:=C1) Tryd.func60 rfl _ Tryd.ntmps60 (Nat.le_of_ble_eq_true rfl) _ Tryd.results60 1 rfl rfl ?_
 repeat' (first|refine qj ?_|fail|((first|refine qe ?_ ?_|refine qf ?_ ?_|refine xsC ?_ ?_);all_goals (intro hc;have hp:=hc;try simp at hp;try (exfalso;omega)))|refine qD ?_ ?_)
 all_goals try (exfalso;omega)
 refine Awp.red (C:=C1) (vB 8 4 rfl (Nat.le_of_ble_eq_true rfl)) ?_
 (refine Awp.red (je (τ:=⟨[(0,.os 0 0 t.length),(2,.v (.int .i64 v)),(4,.op 1 0 0),(8,.os 2 0 0),(43,.os 0 0 t.length),(44,.v (.int .i64 t.length)),(45,.v (.int .i64 ((0:Nat):Int)))],[(0,.own false 4 (t.map Ent.row)),(1,.own false 5 [c.row]),(2,.own false 4 [])],3⟩) [(1,1),(2,2)] rfl ?gts ?ghs) ?gmain;(case gts=>(repeat (first|exact qd|refine qn ?_|refine xd ?_|refine vH ?_|refine qM ?_ ?_)));(case ghs=>(repeat (first|exact qr|refine jT ?_|refine jb ?_ ?_))))
 refine qy (C:=C1) (fun n σ => ∃ i:Nat,i ≤ t.length ∧ n = t.length - i ∧ xX t c i = false ∧ σ = ⟨[(0,.os 0 0 t.length),(2,.v (.int .i64 v)),(4,.op 1 0 0),(8,.os 2 0 (qU (t.take i) c v).length),(43,.os 0 0 t.length),(44,.v (.int .i64 t.length)),(45,.v (.int .i64 (i:Int)))],[(0,.own false 4 (t.map Ent.row)),(1,.own false 5 [c.row]),(2,.own false 4 ((qU (t.take i) c v).map Ent.row))],3⟩) t.length ⟨0,Nat.zero_le _,rfl,rfl,rfl⟩ ?_
 rintro n σ ⟨i,hi,rfl,hsofar,rfl⟩
 have hgl:(qU (t.take i) c v).length ≤ i:=by
  unfold qU
  rw [List.length_map]
  have h1:((t.take i).filter (wG c.path)).length ≤ (t.take i).length:=List.length_filter_le ..
  simp at h1;omega
 by_cases hlt:i < t.length
 ·have hr:=qL (f:=Ent.row) hlt
  have hpx:=hgt t[i] (List.getElem_mem _)
  have lx:=jf hpx
  have hin:=Yn t[i].path c.path (by omega)
  have hgs := @wB t c v i hlt
  have hmv:=J8 t[i].path c.path c.to (by omega) (by omega) (by omega)
  have hme := @vm t[i].path c.path c.to hpx hc1 hc2
  have hbs := @XI t c i hlt
  rw [hsofar] at hbs
  have hmt : ∀ w,(if t[i].path = c.path then v else t[i].ver) = w → (yd c v t[i]).row = [.v (str (c.to ++ t[i].path.drop c.path.length)),.v (.bool t[i].fold),.v (str t[i].text),.v (.int .i64 w)]:=fun w hw=>by simp [yd,Ent.row,hw]
  generalize hG:qU (t.take i) c v = G at hgl hgs ⊢
  generalize inB t[i].path c.path = I at *
  cases I with
  | false =>
    rw [if_neg (by decide)] at hgs
    have hbs:xX t c (i + 1) = false:=hbs
    repeat' (first|refine qj ?_|(first|(refine vx ?_)|(refine jr ?_)|(refine xt ?_)|refine jH Tryd.func70 (hin ..) ?_|refine jV Tryd.func75 (hmv ..) ?_)|((first|refine qe ?_ ?_|refine qf ?_ ?_|refine xsC ?_ ?_);all_goals (intro hc;have hp:=hc;try simp at hp;try (exfalso;omega)))|refine qD ?_ ?_)
    all_goals try (exfalso;omega)
    refine ⟨t.length - (i + 1),_,by omega,je (τ:=⟨[(0,.os 0 0 t.length),(2,.v (.int .i64 v)),(4,.op 1 0 0),(8,.os 2 0 (qU (t.take (i + 1)) c v).length),(43,.os 0 0 t.length),(44,.v (.int .i64 t.length)),(45,.v (.int .i64 ((i + 1:Nat):Int)))],[(0,.own false 4 (t.map Ent.row)),(1,.own false 5 [c.row]),(2,.own false 4 ((qU (t.take (i + 1)) c v).map Ent.row))],3⟩) [(1,1),(2,2)] rfl ?gts ?ghs,i + 1,by omega,rfl,(hbs),rfl⟩;(case gts=>(repeat (first|exact qd|refine qn ?_|refine xd ?_|refine vH ?_|refine qM ?_ ?_));all_goals (rw [hgs]));(case ghs=>(repeat (first|exact qr|refine jT ?_|refine jb ?_ ?_));all_goals (rw [hgs]))
  | true =>
    have hme2:=hme rfl
    clear hme
    rw [if_pos rfl] at hgs
    have hlen1:(qU (t.take (i + 1)) c v).length = G.length + 1:=by rw [hgs];simp
    generalize c.to ++ t[i].path.drop c.path.length = Q at *
    generalize jP t[i].path c.path c.to = E at *
    cases hq:qN Q with
    | true =>
      rw [hq,if_pos rfl] at hme2
      subst hme2
      repeat' (first|refine qj ?_|(first|(refine vx ?_)|(refine jr ?_)|(refine xt ?_)|refine jH Tryd.func70 (hin ..) ?_|refine jV Tryd.func75 (hmv ..) ?_)|((first|refine qe ?_ ?_|refine qf ?_ ?_|refine xsC ?_ ?_);all_goals (intro hc;have hp:=hc;try simp at hp;try (exfalso;omega)))|refine qD ?_ ?_)
      all_goals try (exfalso;omega)
      all_goals ((refine J9 (rs:=[.tmp 6,.tmp 7]) [] 1 ?_;(repeat (first|exact qr|refine jT ?_|refine jb ?_ ?_));all_goals trace_state))
    | false =>
      rw [hq,if_neg (by decide)] at hme2
      subst hme2
      rw [hq] at hbs
      have hbs:xX t c (i + 1) = false:=hbs
      repeat' (first|refine qj ?_|(first|(refine vx ?_)|(refine jr ?_)|(refine xt ?_)|refine jH Tryd.func70 (hin ..) ?_|refine jV Tryd.func75 (hmv ..) ?_)|((first|refine qe ?_ ?_|refine qf ?_ ?_|refine xsC ?_ ?_);all_goals (intro hc;have hp:=hc;try simp at hp;try (exfalso;omega)))|refine qD ?_ ?_)
      all_goals try (exfalso;omega)
      ·have hrow:=hmt v (if_pos (by assumption))
       clear hmt hin hmv hgt hpx lx hr hq hbad
       refine ⟨t.length - (i + 1),_,by omega,je (τ:=⟨[(0,.os 0 0 t.length),(2,.v (.int .i64 v)),(4,.op 1 0 0),(8,.os 2 0 (qU (t.take (i + 1)) c v).length),(43,.os 0 0 t.length),(44,.v (.int .i64 t.length)),(45,.v (.int .i64 ((i + 1:Nat):Int)))],[(0,.own false 4 (t.map Ent.row)),(1,.own false 5 [c.row]),(2,.own false 4 ((qU (t.take (i + 1)) c v).map Ent.row))],3⟩) [(1,1),(4,2)] rfl ?gts ?ghs,i + 1,by omega,rfl,(hbs),rfl⟩;(case gts=>(repeat (first|exact qd|refine qn ?_|refine xd ?_|refine vH ?_|refine qM ?_ ?_));all_goals (first|(rw [hlen1];done)|(rw [hgs,List.map_append,List.take_of_length_le (by simp)];show _ = _ ++ [(yd c v t[i]).row];rw [hrow];rfl)));(case ghs=>(repeat (first|exact qr|refine jT ?_|refine jb ?_ ?_));all_goals (first|(rw [hlen1];done)|(rw [hgs,List.map_append,List.take_of_length_le (by simp)];show _ = _ ++ [(yd c v t[i]).row];rw [hrow];rfl)))
      ·have hrow:=hmt t[i].ver (if_neg (by assumption))
       clear hmt hin hmv hgt hpx lx hr hq hbad
       refine ⟨t.length - (i + 1),_,by omega,je (τ:=⟨[(0,.os 0 0 t.length),(2,.v (.int .i64 v)),(4,.op 1 0 0),(8,.os 2 0 (qU (t.take (i + 1)) c v).length),(43,.os 0 0 t.length),(44,.v (.int .i64 t.length)),(45,.v (.int .i64 ((i + 1:Nat):Int)))],[(0,.own false 4 (t.map Ent.row)),(1,.own false 5 [c.row]),(2,.own false 4 ((qU (t.take (i + 1)) c v).map Ent.row))],3⟩) [(1,1),(4,2)] rfl ?gts ?ghs,i + 1,by omega,rfl,(hbs),rfl⟩;(case gts=>(repeat (first|exact qd|refine qn ?_|refine xd ?_|refine vH ?_|refine qM ?_ ?_));all_goals (first|(rw [hlen1];done)|(rw [hgs,List.map_append,List.take_of_length_le (by simp)];show _ = _ ++ [(yd c v t[i]).row];rw [hrow];rfl)));(case ghs=>(repeat (first|exact qr|refine jT ?_|refine jb ?_ ?_));all_goals (first|(rw [hlen1];done)|(rw [hgs,List.map_append,List.take_of_length_le (by simp)];show _ = _ ++ [(yd c v t[i]).row];rw [hrow];rfl)))
 ·obtain rfl:i = t.length:=by omega
  unfold xX at hsofar
  rw [List.take_length] at hsofar
  simp only [jU,hk,hsofar] at hbad
  simp at hbad
theorem JN (t:List Ent) (c:Chg) (v:Int) (hl:t.length ≤ 400000) (hk:c.kind = 3) (hgt : ∀ x,x ∈ t → qg x.path = 0) (hc1:qg c.path = 0) (hc2:qg c.to = 0) (hbad:jU t c = false) (hs:qV jm t = true) :
  qx C1.P 60 [.os 0 0 t.length,.agg c.row,.v (.int .i64 v)] [.own false 4 (t.map Ent.row)] (wl (jI t c v) (qO t c v).length) [.dead,.own false 4 ((qO t c v).map Ent.row)]:=by
 have l1:=jf hc1
 have l2:=jf hc2
 have hnb : ∀ x,x ∈ t → inB x.path c.path = true → qN (c.to ++ x.path.drop c.path.length) = false:=fun x hx hi=>by
  simp only [jU,hk,decide_true,Bool.true_and,List.any_eq_false] at hbad
  simpa using hbad x (List.mem_filter.2 ⟨hx,hi⟩)
 have hwo:=wD t c.path (by omega) (by omega)
 have hD:qO t c v = (qU t c v).foldl jW (jv (wG c.path) t):=by simp [qO,hk]
 have hE:jI t c v = if 60 < (qO t c v).length then 2 else 0:=by simp [jI,hbad]
 have hkl:(jv (wG c.path) t).length ≤ t.length:=List.length_filter_le ..
 have hkr:=x6 (p:=wG c.path) hs
 have hml:(t.map Ent.row).length = t.length:=List.length_map ..
 refine qa (C:=C1) Tryd.func60 rfl _ Tryd.ntmps60 (Nat.le_of_ble_eq_true rfl) _ Tryd.results60 1 rfl rfl ?_
 repeat' (first|refine qj ?_|fail|((first|refine qe ?_ ?_|refine qf ?_ ?_|refine xsC ?_ ?_);all_goals (intro hc;have hp:=hc;try simp at hp;try (exfalso;omega)))|refine qD ?_ ?_)
 all_goals try (exfalso;omega)
 refine Awp.red (C:=C1) (vB 8 4 rfl (Nat.le_of_ble_eq_true rfl)) ?_
 (refine Awp.red (je (τ:=⟨[(0,.os 0 0 t.length),(2,.v (.int .i64 v)),(4,.op 1 0 0),(8,.os 2 0 0),(43,.os 0 0 t.length),(44,.v (.int .i64 t.length)),(45,.v (.int .i64 ((0:Nat):Int)))],[(0,.own false 4 (t.map Ent.row)),(1,.own false 5 [c.row]),(2,.own false 4 [])],3⟩) [(1,1),(2,2)] rfl ?gts ?ghs) ?gmain;(case gts=>(repeat (first|exact qd|refine qn ?_|refine xd ?_|refine vH ?_|refine qM ?_ ?_)));(case ghs=>(repeat (first|exact qr|refine jT ?_|refine jb ?_ ?_))))
 refine qy (C:=C1) (fun n σ => ∃ i:Nat,i ≤ t.length ∧ n = t.length - i ∧ True ∧ σ = ⟨[(0,.os 0 0 t.length),(2,.v (.int .i64 v)),(4,.op 1 0 0),(8,.os 2 0 (qU (t.take i) c v).length),(43,.os 0 0 t.length),(44,.v (.int .i64 t.length)),(45,.v (.int .i64 (i:Int)))],[(0,.own false 4 (t.map Ent.row)),(1,.own false 5 [c.row]),(2,.own false 4 ((qU (t.take i) c v).map Ent.row))],3⟩) t.length ⟨0,Nat.zero_le _,rfl,trivial,rfl⟩ ?_
 rintro n σ ⟨i,hi,rfl, -,rfl⟩
 have hgl:(qU (t.take i) c v).length ≤ i:=by
  unfold qU
  rw [List.length_map]
  have h1:((t.take i).filter (wG c.path)).length ≤ (t.take i).length:=List.length_filter_le ..
  simp at h1;omega
 by_cases hlt:i < t.length
 ·have hr:=qL (f:=Ent.row) hlt
  have hpx:=hgt t[i] (List.getElem_mem _)
  have lx:=jf hpx
  have hin:=Yn t[i].path c.path (by omega)
  have hgs := @wB t c v i hlt
  have hmv:=J8 t[i].path c.path c.to (by omega) (by omega) (by omega)
  have hme := @vm t[i].path c.path c.to hpx hc1 hc2
  have hnb1:=hnb t[i] (List.getElem_mem _)
  have hmt : ∀ w,(if t[i].path = c.path then v else t[i].ver) = w → (yd c v t[i]).row = [.v (str (c.to ++ t[i].path.drop c.path.length)),.v (.bool t[i].fold),.v (str t[i].text),.v (.int .i64 w)]:=fun w hw=>by simp [yd,Ent.row,hw]
  generalize hG:qU (t.take i) c v = G at hgl hgs ⊢
  generalize inB t[i].path c.path = I at *
  cases I with
  | false =>
    rw [if_neg (by decide)] at hgs
    repeat' (first|refine qj ?_|(first|(refine vx ?_)|(refine jr ?_)|(refine xt ?_)|refine jH Tryd.func70 (hin ..) ?_|refine jV Tryd.func75 (hmv ..) ?_)|((first|refine qe ?_ ?_|refine qf ?_ ?_|refine xsC ?_ ?_);all_goals (intro hc;have hp:=hc;try simp at hp;try (exfalso;omega)))|refine qD ?_ ?_)
    all_goals try (exfalso;omega)
    refine ⟨t.length - (i + 1),_,by omega,je (τ:=⟨[(0,.os 0 0 t.length),(2,.v (.int .i64 v)),(4,.op 1 0 0),(8,.os 2 0 (qU (t.take (i + 1)) c v).length),(43,.os 0 0 t.length),(44,.v (.int .i64 t.length)),(45,.v (.int .i64 ((i + 1:Nat):Int)))],[(0,.own false 4 (t.map Ent.row)),(1,.own false 5 [c.row]),(2,.own false 4 ((qU (t.take (i + 1)) c v).map Ent.row))],3⟩) [(1,1),(2,2)] rfl ?gts ?ghs,i + 1,by omega,rfl,trivial,rfl⟩;(case gts=>(repeat (first|exact qd|refine qn ?_|refine xd ?_|refine vH ?_|refine qM ?_ ?_));all_goals (rw [hgs]));(case ghs=>(repeat (first|exact qr|refine jT ?_|refine jb ?_ ?_));all_goals (rw [hgs]))
  | true =>
    have hme2:=hme rfl
    clear hme
    rw [if_pos rfl] at hgs
    have hlen1:(qU (t.take (i + 1)) c v).length = G.length + 1:=by rw [hgs];simp
    generalize c.to ++ t[i].path.drop c.path.length = Q at *
    generalize jP t[i].path c.path c.to = E at *
    have hq:qN Q = false:=hnb1 rfl
    rw [hq,if_neg (by decide)] at hme2
    subst hme2
    repeat' (first|refine qj ?_|(first|(refine vx ?_)|(refine jr ?_)|(refine xt ?_)|refine jH Tryd.func70 (hin ..) ?_|refine jV Tryd.func75 (hmv ..) ?_)|((first|refine qe ?_ ?_|refine qf ?_ ?_|refine xsC ?_ ?_);all_goals (intro hc;have hp:=hc;try simp at hp;try (exfalso;omega)))|refine qD ?_ ?_)
    all_goals try (exfalso;omega)
    ·have hrow:=hmt v (if_pos (by assumption))
     clear hmt hin hmv hgt hpx lx hr hq hnb hnb1 hwo hE hD
     refine ⟨t.length - (i + 1),_,by omega,je (τ:=⟨[(0,.os 0 0 t.length),(2,.v (.int .i64 v)),(4,.op 1 0 0),(8,.os 2 0 (qU (t.take (i + 1)) c v).length),(43,.os 0 0 t.length),(44,.v (.int .i64 t.length)),(45,.v (.int .i64 ((i + 1:Nat):Int)))],[(0,.own false 4 (t.map Ent.row)),(1,.own false 5 [c.row]),(2,.own false 4 ((qU (t.take (i + 1)) c v).map Ent.row))],3⟩) [(1,1),(4,2)] rfl ?gts ?ghs,i + 1,by omega,rfl,trivial,rfl⟩;(case gts=>(repeat (first|exact qd|refine qn ?_|refine xd ?_|refine vH ?_|refine qM ?_ ?_));all_goals (first|(rw [hlen1];done)|(rw [hgs,List.map_append,List.take_of_length_le (by simp)];show _ = _ ++ [(yd c v t[i]).row];rw [hrow];rfl)));(case ghs=>(repeat (first|exact qr|refine jT ?_|refine jb ?_ ?_));all_goals (first|(rw [hlen1];done)|(rw [hgs,List.map_append,List.take_of_length_le (by simp)];show _ = _ ++ [(yd c v t[i]).row];rw [hrow];rfl)))
    ·have hrow:=hmt t[i].ver (if_neg (by assumption))
     clear hmt hin hmv hgt hpx lx hr hq hnb hnb1 hwo hE hD
     refine ⟨t.length - (i + 1),_,by omega,je (τ:=⟨[(0,.os 0 0 t.length),(2,.v (.int .i64 v)),(4,.op 1 0 0),(8,.os 2 0 (qU (t.take (i + 1)) c v).length),(43,.os 0 0 t.length),(44,.v (.int .i64 t.length)),(45,.v (.int .i64 ((i + 1:Nat):Int)))],[(0,.own false 4 (t.map Ent.row)),(1,.own false 5 [c.row]),(2,.own false 4 ((qU (t.take (i + 1)) c v).map Ent.row))],3⟩) [(1,1),(4,2)] rfl ?gts ?ghs,i + 1,by omega,rfl,trivial,rfl⟩;(case gts=>(repeat (first|exact qd|refine qn ?_|refine xd ?_|refine vH ?_|refine qM ?_ ?_));all_goals (first|(rw [hlen1];done)|(rw [hgs,List.map_append,List.take_of_length_le (by simp)];show _ = _ ++ [(yd c v t[i]).row];rw [hrow];rfl)));(case ghs=>(repeat (first|exact qr|refine jT ?_|refine jb ?_ ?_));all_goals (first|(rw [hlen1];done)|(rw [hgs,List.map_append,List.take_of_length_le (by simp)];show _ = _ ++ [(yd c v t[i]).row];rw [hrow];rfl)))
 obtain rfl:i = t.length:=by omega
 have hgl2:(qU t c v).length ≤ t.length:=by rw [List.take_length] at hgl;exact hgl
 rw [List.take_length]
 generalize hK:jv (wG c.path) t = K at *
 generalize hGo:qU t c v = G at *
 generalize jI t c v = E at *
 clear hnb hgl
 repeat' (first|refine qj ?_|(first|(apply jo Tryd.func74 rfl rfl;intro hIsFn;refine xO ([0]) 0 hIsFn (hwo ..) ?_))|((first|refine qe ?_ ?_|refine qf ?_ ?_|refine xsC ?_ ?_);all_goals (intro hc;have hp:=hc;try simp at hp;try (exfalso;omega)))|refine qD ?_ ?_)
 all_goals try (exfalso;omega)
 refine Awp.red (C:=C1) (QR 0 0 K.length rfl rfl (List.take_of_length_le (by simp)) (Nat.ne_of_beq_eq_false rfl) (Nat.le_of_ble_eq_true rfl)) ?_
 (refine Awp.red (je (τ:=⟨[(0,.os 2 0 ((G.take 0).foldl jW K).length),(86,.os 1 0 G.length),(87,.v (.int .i64 G.length)),(88,.v (.int .i64 ((0:Nat):Int)))],[(1,.own false 4 (G.map Ent.row)),(2,.own false 4 (((G.take 0).foldl jW K).map Ent.row))],3⟩) [(2,1),(3,2)] rfl ?gts2 ?ghs2) ?gmain2;(case gts2=>(repeat (first|exact qd|refine qn ?_|refine xd ?_|refine vH ?_|refine qM ?_ ?_));all_goals skip);(case ghs2=>(repeat (first|exact qr|refine jT ?_|refine jb ?_ ?_))))
 refine qy (C:=C1) (fun n σ => ∃ i:Nat,i ≤ G.length ∧ n = G.length - i ∧ True ∧ σ = ⟨[(0,.os 2 0 ((G.take i).foldl jW K).length),(86,.os 1 0 G.length),(87,.v (.int .i64 G.length)),(88,.v (.int .i64 (i:Int)))],[(1,.own false 4 (G.map Ent.row)),(2,.own false 4 (((G.take i).foldl jW K).map Ent.row))],3⟩) G.length ⟨0,Nat.zero_le _,rfl,trivial,rfl⟩ ?_
 rintro n σ ⟨i,hi,rfl, -,rfl⟩
 have hLr:=xq (l:=G.take i) hkr
 have hLl:=vS (G.take i) K
 have hLs:=fun h => @QT G K i h
 have htl:(G.take i).length ≤ G.length:=by simp;omega
 by_cases hlt:i < G.length
 ·have hr:=qL (f:=Ent.row) hlt
  have hLs:=hLs hlt
  generalize (G.take i).foldl jW K = L at *
  have hput:=Xj L G[i] (by omega) hLr
  rw [← hLs] at hput
  repeat' (first|refine qj ?_|(first|(refine vx ?_)|(apply jo Tryd.func73 rfl rfl;intro hIsFn;refine yV ([2]) 2 hIsFn (hput ..) ?_))|((first|refine qe ?_ ?_|refine qf ?_ ?_|refine xsC ?_ ?_);all_goals (intro hc;have hp:=hc;try simp at hp;try (exfalso;omega)))|refine qD ?_ ?_)
  all_goals try (exfalso;omega)
  clear hLr hLl hput hr hwo hE hD hkr
  refine ⟨G.length - (i + 1),_,by omega,je (τ:=⟨[(0,.os 2 0 ((G.take (i + 1)).foldl jW K).length),(86,.os 1 0 G.length),(87,.v (.int .i64 G.length)),(88,.v (.int .i64 ((i + 1:Nat):Int)))],[(1,.own false 4 (G.map Ent.row)),(2,.own false 4 (((G.take (i + 1)).foldl jW K).map Ent.row))],3⟩) [(1,1),(4,2)] rfl ?gts ?ghs,i + 1,by omega,rfl,trivial,rfl⟩;(case gts=>(repeat (first|exact qd|refine qn ?_|refine xd ?_|refine vH ?_|refine qM ?_ ?_)));(case ghs=>(repeat (first|exact qr|refine jT ?_|refine jb ?_ ?_)))
 obtain rfl:i = G.length:=by omega
 rw [List.take_length] at *
 rw [← hD] at *
 generalize qO t c v = L at *
 by_cases h60:60 < L.length
 ·rw [if_pos h60] at hE
  subst hE
  repeat' (first|refine qj ?_|fail|((first|refine qe ?_ ?_|refine qf ?_ ?_|refine xsC ?_ ?_);all_goals (intro hc;have hp:=hc;try simp at hp;try (exfalso;omega)))|refine qD ?_ ?_)
  all_goals try (exfalso;omega)
  (refine J9 (rs:=[.tmp 6,.tmp 7]) [(2,1)] 2 ?_;(apply jq 0;exact qA rfl;(repeat (first|exact qr|refine jT ?_|refine jb ?_ ?_)));all_goals trace_state)
 ·rw [if_neg h60] at hE
  subst hE
  repeat' (first|refine qj ?_|fail|((first|refine qe ?_ ?_|refine qf ?_ ?_|refine xsC ?_ ?_);all_goals (intro hc;have hp:=hc;try simp at hp;try (exfalso;omega)))|refine qD ?_ ?_)
  all_goals try (exfalso;omega)
  (refine J9 (rs:=[.tmp 6,.tmp 7]) [(2,1)] 2 ?_;(apply jq 0;exact qA rfl;(repeat (first|exact qr|refine jT ?_|refine jb ?_ ?_)));all_goals trace_state)
end Go.Proofs.YtnhpclmbhbblbaaDoor
set_option linter.unusedSimpArgs false
set_option linter.unnecessarySimpa false
namespace Go.Proofs.YtnhpclmbhbblbaaDoor
theorem Ju {s:qv}:qH s = true ↔ s ≠ [] ∧ s.length ≤ 20 ∧ s ≠ [46] ∧ s ≠ [46,46] ∧ s.head? ≠ some 32 ∧ s.getLast? ≠ some 32 ∧ ∀ c,c ∈ s → Qt c = true:=by
 simp [qH,and_assoc]
theorem Jh {s:qv} (h:qH s = true):(47:UInt8) ∉ s:=fun hm=>by
 have:=(Ju.1 h).2.2.2.2.2.2 47 hm
 exact absurd this (by decide)
theorem JI:qH [] = false:=by simp [qH]
theorem yj {p:qv}:qg p = 0 ↔ (∀ n,n ∈ qc p → qH n = true) ∧ qN p = false:=by
 unfold qg
 constructor
 ·intro h
  split at h
  ·rename_i h1
   split at h
   ·exact absurd h (by decide)
   ·rename_i h2
    exact ⟨List.all_eq_true.1 h1,by simpa using h2⟩
  ·exact absurd h (by decide)
 ·rintro ⟨h1,h2⟩
  rw [if_pos (List.all_eq_true.2 h1),h2];rfl
theorem QG {p:qv} (h:(47:UInt8) ∉ p):qm p = [] ∧ qP p = p:=by
 rw [qm,qP,jK h]
 exact ⟨rfl,rfl⟩
theorem YO {a b:qv} (h:(47:UInt8) ∉ b):qm (a ++ 47 :: b) = a ∧ qP (a ++ 47 :: b) = b:=by
 rw [qm,qP,xb h]
 refine ⟨by rw [show (a.length:Int).toNat = a.length from by omega,List.take_left],?_⟩
 rw [show ((a.length:Int) + 1).toNat = a.length + 1 from by omega,List.drop_append,List.drop_of_length_le (by omega),List.nil_append,show a.length + 1 - a.length = 1 from by omega];rfl
theorem we {a b:qv} (h:qN b = false) (h1:(qc a).length ≤ (qc b).length) (h2:a.length ≤ b.length):qN a = false:=by
 simp [qN] at h ⊢;omega
theorem kj {p:qv} (h:qg p = 0):(qm p = [] ∨ qg (qm p) = 0) ∧ qH (qP p) = true ∧ YW (qm p) (qP p) = p:=by
 obtain ⟨h1,h2⟩:=yj.1 h
 rcases va (c:=47) p with h3|⟨a,b,rfl,hb⟩
 ·obtain ⟨e1,e2⟩:=QG h3
  rw [e1,e2]
  exact ⟨.inl rfl,h1 p (by rw [ji h3];simp),rfl⟩
 ·obtain ⟨e1,e2⟩:=YO (a:=a) hb
  rw [e1,e2]
  have hn:qc (a ++ 47 :: b) = qc a ++ [b]:=by rw [jX,ji hb]
  have ha:a ≠ []:=fun e=>by
   have:=h1 [] (by rw [hn,e];simp [qc])
   rw [JI] at this;exact absurd this (by decide)
  refine ⟨.inr (yj.2 ⟨fun n hm=>h1 n (by rw [hn];simp [hm]),we h2 (by rw [hn];simp) (by simp)⟩),h1 b (by rw [hn];simp),?_⟩
  simp [YW,ha]
theorem jn {p:qv} {l:List qv}:jc (p :: l) = 0 ↔ qg p = 0 ∧ jc l = 0:=by
 show (if qg p = 0 then jc l else qg p) = 0 ↔ _
 split
 ·rename_i h;simp [h]
 ·rename_i h;simp [h]
theorem JD {p f t:qv} (h:jP p f t = 0) :
  jP (t ++ p.drop f.length) t f = 0 ∧ jc [t ++ p.drop f.length,t] = 0 ∧ inB (t ++ p.drop f.length) t = true ∧ f ++ (t ++ p.drop f.length).drop t.length = p:=by
 unfold jP at h
 split at h
 case isFalse h'=>exact absurd h h'
 rename_i h0
 split at h
 case isFalse=>exact absurd h (by decide)
 rename_i hi
 split at h
 case isTrue=>exact absurd h (by decide)
 rename_i hg
 obtain ⟨hp,h1⟩:=jn.1 h0
 obtain ⟨hf,h2⟩:=jn.1 h1
 obtain ⟨ht, -⟩:=jn.1 h2
 obtain ⟨np,gp⟩:=yj.1 hp
 obtain ⟨nt, -⟩:=yj.1 ht
 have hr:=YN (t:=t) hi
 have hall : ∀ n,n ∈ qc t ++ (qc p).drop (qc f).length → qH n = true:=fun n hm=>by
  rcases List.mem_append.1 hm with hm|hm
  ·exact nt n hm
  ·exact np n (List.mem_of_mem_drop hm)
 have hnm:qc (t ++ p.drop f.length) = qc t ++ (qc p).drop (qc f).length:=by
  rw [← hr]
  exact kX (by simp [jL]) fun n hm=>Jh (hall n hm)
 have hm:qg (t ++ p.drop f.length) = 0:=yj.2 ⟨by rw [hnm];exact hall,by simpa using hg⟩
 have hb:inB (t ++ p.drop f.length) t = true:=by
  rw [Vd,hnm,List.isPrefixOf_iff_prefix];exact List.prefix_append ..
 have hpre:f ++ p.drop f.length = p:=by
  simp only [inB,Bool.or_eq_true,decide_eq_true_eq,List.isPrefixOf_iff_prefix] at hi
  rcases hi with rfl|⟨s,rfl⟩
  ·simp
  ·rw [List.append_assoc,List.drop_left]
 have hback:f ++ (t ++ p.drop f.length).drop t.length = p:=by rw [List.drop_left];exact hpre
 refine ⟨?_,?_,hb,hback⟩
 ·unfold jP
  rw [if_pos (jn.2 ⟨hm,jn.2 ⟨ht,jn.2 ⟨hf,rfl⟩⟩⟩),if_pos hb,hback,gp];rfl
 ·exact jn.2 ⟨hm,jn.2 ⟨ht,rfl⟩⟩
end Go.Proofs.YtnhpclmbhbblbaaDoor
