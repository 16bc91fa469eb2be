import Derived.Test.YtiljlcgmcmjcoaaGreatDoorMz10
import Derived.Test.YtiljlcgmcmjcoaaGreatDoorMz9
set_option linter.unusedSimpArgs false
set_option linter.unnecessarySimpa false
set_option linter.unusedVariables false
set_option maxHeartbeats 1000000
namespace Go.Proofs.YtiljlcgmcmjcoaaGreatDoor
open Go.Ab Go.RowKit
set_option maxRecDepth 10000
attribute [local irreducible] Awp ye ji qQ Red qF Go.Ab.Fin qo Rz xx qG qO ResOk jK je jX qW
def yb (p:Ent → Bool) (t:List Ent):List Ent:=t.filter fun x => !p x
theorem QU {p:Ent → Bool} {t:List Ent} {j:Nat} (h:j < t.length):yb p (t.take (j + 1)) = if p t[j] = true then yb p (t.take j) else yb p (t.take j) ++ [t[j]]:=by
 unfold yb
 rw [List.take_succ_eq_append_getElem h,List.filter_append]
 cases hs:p t[j]<;>simp [hs]
theorem XU (p:Ent → Bool) (t:List Ent) (j:Nat) (hj:j ≤ t.length):(yb p (t.take j)).length ≤ j:=by
 have h1:(yb p (t.take j)).length ≤ (t.take j).length:=List.length_filter_le ..
 simp at h1;omega
theorem Wq (p:Ent → Bool) (g:FuncId) (hg:IsFn C1.P g) (cap:List AV) (hcap:AV.pure.pureL cap = true) (t:List Ent) (hl:t.length ≤ 1000000) (hcf : ∀ s,s ∈ t → jO C1.P g (AV.agg s.row :: cap) (.v (.bool (p s)))) :
  qo C1.P 200 [.os 0 0 t.length,.clo (.func g) [] cap] [.own false 4 (t.map Ent.row)] (.os 0 0 (yb p t).length) [.own false 4 ((yb p t).map Ent.row)]:=by
 have hidx:=qb5 p g hg cap hcap t hl hcf
 refine qa (C:=C1) Tryz.func200 rfl _ Tryz.ntmps200 (Nat.le_of_ble_eq_true rfl) _ Tryz.results200 1 rfl rfl ?_
 rcases xZ p t with ⟨h1,h2⟩|⟨k,hk,h1,h2,h3⟩
 ·have hall:yb p t = t:=List.filter_eq_self.2 fun x hx=>by rw [h2 x hx];rfl
  rw [h1] at hidx
  rw [hall]
  repeat' (first|refine qe ?_|(first|(apply qj;apply yy ([0]);exact jP Tryz.func198 rfl rfl;exact hidx;(case hz=>(exact qk (yn rfl (by simp) (jq fun _=>rfl)) (qk (x8 hcap) qL)));(case hfl=>rfl);(case hN=>exact nle rfl)))|((first|refine qb ?_ ?_|refine qc ?_ ?_|refine xsC ?_ ?_);all_goals (intro hc;have hp:=hc;try simp at hp;try (exfalso;omega)))|refine qp ?_ ?_)
  all_goals try (exfalso;omega)
  (refine Jf (rs:=[.tmp 4]) [] 1 ?_;(repeat (first|exact qf|refine jV ?_|refine qH ?_ ?_));all_goals trace_state)
 ·rw [h1] at hidx
  have hk1:yb p (t.take (k + 1)) = t.take k:=by
   rw [QU hk,if_pos h3]
   exact List.filter_eq_self.2 fun x hx=>by rw [h2 x hx];rfl
  repeat' (first|refine qe ?_|(first|(apply qj;apply yy ([0]);exact jP Tryz.func198 rfl rfl;exact hidx;(case hz=>(exact qk (yn rfl (by simp) (jq fun _=>rfl)) (qk (x8 hcap) qL)));(case hfl=>rfl);(case hN=>exact nle rfl)))|((first|refine qb ?_ ?_|refine qc ?_ ?_|refine xsC ?_ ?_);all_goals (intro hc;have hp:=hc;try simp at hp;try (exfalso;omega)))|refine qp ?_ ?_)
  all_goals try (exfalso;omega)
  (refine Awp.red (qY (τ:=⟨[(0,.os 0 0 t.length),(1,.clo (.func g) [] cap),(5,.v (.int .i64 (k:Int))),(6,.v (.int .i64 ((k:Int) + 1)))],[(0,.own false 4 (t.map Ent.row))],1⟩) [] rfl ?gts ?ghs) ?gmain;(case gts=>(repeat (first|exact qd|refine qi ?_|refine xd ?_|refine xL ?_|refine qI ?_ ?_)));(case ghs=>(repeat (first|exact qf|refine jV ?_|refine qH ?_ ?_))))
  refine qq (C:=C1) (fun n σ => ∃ (j:Nat) (E:List Ent),k + 1 ≤ j ∧ j ≤ t.length ∧ n = t.length - j ∧ E.length = t.length ∧ E.take (yb p (t.take j)).length = yb p (t.take j) ∧ E.drop j = t.drop j ∧ σ = ⟨[(0,.os 0 0 t.length),(1,.clo (.func g) [] cap),(5,.v (.int .i64 ((yb p (t.take j)).length:Int))),(6,.v (.int .i64 (j:Int)))],[(0,.own false 4 (E.map Ent.row))],1⟩) (t.length - (k + 1)) ⟨k + 1,t,Nat.le_refl _,hk,rfl,rfl,(by rw [hk1];simp),rfl,?_⟩ ?_
  ·have htl:(t.take k).length = k:=by simp;omega
   rw [hk1,htl];rfl
  rintro n σ ⟨j,E,hkj,hj,rfl,hEl,hEt,hEd,rfl⟩
  have hil:=XU p t j hj
  by_cases hlt:j < t.length
  ·have hej:E[j]'(by omega) = t[j]:=by
    have h:=congrArg (fun l=>l[0]?) hEd
    simp only [List.getElem?_drop,Nat.add_zero] at h
    rw [List.getElem?_eq_getElem (by omega),List.getElem?_eq_getElem hlt] at h
    exact Option.some.inj h
   have hr:=qx (f:=Ent.row) (l:=E) (i:=j) (by omega)
   rw [hej] at hr
   have hci:=hcf t[j] (List.getElem_mem _)
   have hks := @QU p t j hlt
   have hEd2:E.drop (j + 1) = t.drop (j + 1):=by rw [← List.drop_drop,hEd,List.drop_drop]
   have hml:(E.map Ent.row).length = E.length:=List.length_map ..
   have hrw : ∀ i:Nat,i < E.length → (E.map Ent.row)[i]? = some (E[i]?.getD t[j]).row:=fun i hi=>by
    rw [List.getElem?_map,List.getElem?_eq_getElem hi];rfl
   have hri:=hrw (yb p (t.take j)).length (by omega)
   generalize hI:(yb p (t.take j)).length = i at *
   generalize p t[j] = P at *
   cases P with
   | true =>
     rw [if_pos rfl] at hks
     repeat' (first|refine qe ?_|(first|(refine vV ?_)|(apply qj;apply kt [];rfl;exact hg;exact hci;(case hz=>exact qk (qB rfl) (wk hcap));(case hfl=>rfl);(case hN=>exact nle rfl)))|((first|refine qb ?_ ?_|refine qc ?_ ?_|refine xsC ?_ ?_);all_goals (intro hc;have hp:=hc;try simp at hp;try (exfalso;omega)))|refine qp ?_ ?_)
     all_goals try (exfalso;omega)
     refine ⟨t.length - (j + 1),_,by omega,qY (τ:=⟨[(0,.os 0 0 t.length),(1,.clo (.func g) [] cap),(5,.v (.int .i64 ((yb p (t.take (j + 1))).length:Int))),(6,.v (.int .i64 ((j + 1:Nat):Int)))],[(0,.own false 4 (List.map Ent.row E))],1⟩) [] rfl ?gts ?ghs,j + 1,E,by omega,by omega,rfl,hEl,(by rw [hks,hI];exact hEt),hEd2,rfl⟩;(case gts=>(repeat (first|exact qd|refine qi ?_|refine xd ?_|refine xL ?_|refine qI ?_ ?_));all_goals (rw [hks,hI]));(case ghs=>(repeat (first|exact qf|refine jV ?_|refine qH ?_ ?_));all_goals skip)
   | false =>
     rw [if_neg (by decide)] at hks
     have hlen1:(yb p (t.take (j + 1))).length = i + 1:=by rw [hks,List.length_append,hI];rfl
     have hset:(E.set i t[j]).take (i + 1) = yb p (t.take (j + 1)):=by
      rw [hks,List.take_set, ← hEt,List.take_succ_eq_append_getElem (by omega)]
      rw [List.set_append_right _ _ (by simp;omega)]
      simp [show i - min i E.length = 0 from by omega]
     have hdr:(E.set i t[j]).drop (j + 1) = t.drop (j + 1):=by rw [List.drop_set_of_lt (by omega)];exact hEd2
     repeat' (first|refine qe ?_|(first|(refine vV ?_)|(apply qj;apply kt [];rfl;exact hg;exact hci;(case hz=>exact qk (qB rfl) (wk hcap));(case hfl=>rfl);(case hN=>exact nle rfl)))|((first|refine qb ?_ ?_|refine qc ?_ ?_|refine xsC ?_ ?_);all_goals (intro hc;have hp:=hc;try simp at hp;try (exfalso;omega)))|refine qp ?_ ?_)
     all_goals try (exfalso;omega)
     refine ⟨t.length - (j + 1),_,by omega,qY (τ:=⟨[(0,.os 0 0 t.length),(1,.clo (.func g) [] cap),(5,.v (.int .i64 ((yb p (t.take (j + 1))).length:Int))),(6,.v (.int .i64 ((j + 1:Nat):Int)))],[(0,.own false 4 (List.map Ent.row (E.set i t[j])))],1⟩) [] rfl ?gts ?ghs,j + 1,(E.set i t[j]),by omega,by omega,rfl,(by rw [List.length_set];exact hEl),(by rw [hlen1];exact hset),hdr,rfl⟩;(case gts=>(repeat (first|exact qd|refine qi ?_|refine xd ?_|refine xL ?_|refine qI ?_ ?_));all_goals (rw [hlen1]));(case ghs=>(repeat (first|exact qf|refine jV ?_|refine qH ?_ ?_));all_goals (rw [List.map_set];rfl))
  obtain rfl:j = t.length:=by omega
  rw [List.take_length] at *
  repeat' (first|refine qe ?_|(first|(refine Jm ?_)|(refine qdI ?_))|((first|refine qb ?_ ?_|refine qc ?_ ?_|refine xsC ?_ ?_);all_goals (intro hc;have hp:=hc;try simp at hp;try (exfalso;omega)))|refine qp ?_ ?_)
  all_goals try (exfalso;omega)
  apply qdV (C:=C1) 0 (yb p t).length
  case hn=>rfl
  case hr =>
   refine Eq.trans (b:=(yb p t).map Ent.row) ?_ rfl
   rw [List.append_assoc,List.take_append_of_le_length (by simp;omega),Nat.zero_add,List.take_take,Nat.min_self, ← List.map_take,hEt]
  (apply jp (rs:=[.tmp 4]) [] 1;(case hr=>(repeat (first|exact qS|(apply qU;rfl)|(apply qK;rfl;rfl;rfl;rfl;rfl))));(case hL=>rfl);(case hh=>(repeat (first|exact qf|refine jV ?_|refine qH ?_ ?_));all_goals trace_state);(case hi=>first|exact (rfl:_ = ([]:List (Nat × Nat)))|exact (rfl:_ = [((0:Nat),(0:Nat))])|exact (rfl:_ = [((0:Nat),(0:Nat)),(1,1)]));(case hz=>first|rfl|(simp [jI,AV.ren,AV.ren.renL,qZ,qu,qX];done)|(simp [jI,AV.ren,AV.ren.renL,qZ,qu,qX, *];done)|(simp [jI,AV.ren,AV.ren.renL,qZ,qu,qX];omega)))
def kr (p:qC) (x:Ent):Bool:=inB x.path p
theorem qck (x:Ent) (p:qC) (hp:p.length ≤ 140737488355328):jO C.P 201 [.agg x.row,.fp [[.v (str p)]] 0 0] (.v (.bool (kr p x))):=by
 have hin:=qek x.path p hp
 refine qa Tryz.func201 rfl _ Tryz.ntmps201 (Nat.le_of_ble_eq_true rfl) _ Tryz.results201 0 rfl rfl ?_
 repeat' (first|refine qe ?_|(first|refine xsF Tryz.func186 (hin ..) ?_)|((first|refine xsC ?_ ?_);all_goals (intro hc;have hp:=hc;try simp at hp;try (exfalso;omega)))|refine qp ?_ ?_)
 all_goals (apply jd;rfl;rfl)
theorem KP (t:List Ent) (p:qC) (hl:t.length ≤ 1000000) (hpl:p.length ≤ 140737488355328) :
  qo C1.P 190 [.os 0 0 t.length,.v (str p)] [.own false 4 (t.map Ent.row)] (.os 0 0 (yb (kr p) t).length) [.own false 4 ((yb (kr p) t).map Ent.row)]:=by
 have hdel:=Wq (kr p) 201 (jP Tryz.func201 rfl rfl) [.fp [[.v (str p)]] 0 0] rfl t hl (fun x _=>qck x p hpl)
 refine qa (C:=C1) Tryz.func190 rfl _ Tryz.ntmps190 (Nat.le_of_ble_eq_true rfl) _ Tryz.results190 1 rfl rfl ?_
 (repeat apply jg);apply qw;(repeat' (first|apply qT|refine xi ?_|refine xe ?_|refine xl ?_|refine xN ?_|refine xj ?_|refine vm ?_|refine xb ?_|refine vb ?_|refine qiP ?_|refine vl ?_|refine zb ?_|refine qiw ?_|refine vZ ?_|refine Vn ?_|refine vX ?_|refine xX ?_|refine xn ?_|refine yG ?_|(first|fail)|refine yg ?_|refine j6 ?_|refine j4 ?_|refine jF ?_|refine jG ?_|refine yL ?_|refine yK ?_|refine j7 ?_|refine j8 ?_|((first|refine qb ?_ ?_|refine qc ?_ ?_);all_goals (intro hc;have hp:=hc;try simp at hp;try (exfalso;omega)))));show Awp _ _ _ _ _
 refine xV 3 1 ?_
 repeat' (first|refine qe ?_|(first|(apply qN Tryz.func200 rfl rfl;intro hIsFn;refine Qm ([0]) 0 hIsFn (hdel ..) ?_))|((first|refine qb ?_ ?_|refine qc ?_ ?_|refine xsC ?_ ?_);all_goals (intro hc;have hp:=hc;try simp at hp;try (exfalso;omega)))|refine qp ?_ ?_)
 all_goals try (exfalso;omega)
 (apply jp (rs:=[.tmp 4]) [] 1;(case hr=>(repeat (first|exact qS|(apply qU;rfl)|(apply qK;rfl;rfl;rfl;rfl;rfl))));(case hL=>rfl);(case hh=>(repeat (first|exact qf|refine jV ?_|refine qH ?_ ?_));all_goals trace_state);(case hi=>first|exact (rfl:_ = ([]:List (Nat × Nat)))|exact (rfl:_ = [((0:Nat),(0:Nat))])|exact (rfl:_ = [((0:Nat),(0:Nat)),(1,1)]));(case hz=>first|rfl|(simp [jI,AV.ren,AV.ren.renL,qZ,qu,qX];done)|(simp [jI,AV.ren,AV.ren.renL,qZ,qu,qX, *];done)|(simp [jI,AV.ren,AV.ren.renL,qZ,qu,qX];omega)))
end Go.Proofs.YtiljlcgmcmjcoaaGreatDoor
set_option linter.unusedSimpArgs false
set_option linter.unnecessarySimpa false
set_option linter.unusedVariables false
set_option maxHeartbeats 1000000
namespace Go.Proofs.YtiljlcgmcmjcoaaGreatDoor
open Go.Ab Go.RowKit
set_option maxRecDepth 10000
attribute [local irreducible] Awp ye ji qQ Red qF Go.Ab.Fin qo Rz xx qG qO ResOk jK je jX qW
def y8 (c:Chg) (v:Int) (x:Ent):Ent:=⟨c.to ++ x.path.drop c.path.length,x.fold,x.text,if x.path = c.path then v else x.ver⟩
def jz (t:List Ent) (c:Chg) (v:Int):List Ent:=(t.filter (kr c.path)).map (y8 c v)
def ju (t:List Ent) (c:Chg) (v:Int):List Ent :=
 if c.kind = 1 then xg t ⟨c.path,true,[],v⟩
 else if c.kind = 2 then xg t ⟨c.path,false,c.text,v⟩
 else if c.kind = 4 then yb (kr c.path) t
 else (jz t c v).foldl xg (yb (kr c.path) t)
def y7 (t:List Ent) (c:Chg):Bool:=decide (c.kind = 3) && (t.filter (kr c.path)).any fun x=>yF (c.to ++ x.path.drop c.path.length)
def yw (t:List Ent) (c:Chg) (v:Int):Int:=if y7 t c = true then 2 else if 60 < (ju t c v).length then 2 else 0
def Wl (e:Int) (n:Nat):AV:=if e = 0 then .tup [.os 1 0 n,.v (.int .i64 0)] else .tup [.sl true [],.v (.int .i64 e)]
theorem qg8 (t:List Ent) (c:Chg) (v:Int) (hl:t.length ≤ 1000000) (hs:qv yt t = true) (hk:c.kind = 1) (hlen:(ju t c v).length ≤ 1000001) :
  qo C1.P 175 [.os 0 0 t.length,.agg c.row,.v (.int .i64 v)] [.own false 4 (t.map Ent.row)] (Wl (yw t c v) (ju t c v).length) [.dead,.own false 4 ((ju t c v).map Ent.row)]:=by
 have hput:qo C1.P 189 [.os 0 0 t.length,.agg [.v (str c.path),.v (.bool true),.v (str []),.v (.int .i64 v)]] [.own false 4 (t.map Ent.row)] _ _:=qgk t ⟨c.path,true,[],v⟩ hl hs
 have hD:ju t c v = xg t ⟨c.path,true,[],v⟩:=by simp [ju,hk]
 have hE:yw t c v = if 60 < (ju t c v).length then 2 else 0:=by simp [yw,y7,hk]
 rw [← hD] at hput
 generalize yw t c v = E at *
 generalize ju t c v = L at *
 by_cases h60:60 < L.length
 ·rw [if_pos h60] at hE
  subst hE
  refine qa (C:=C1) Tryz.func175 rfl _ Tryz.ntmps175 (Nat.le_of_ble_eq_true rfl) _ Tryz.results175 1 rfl rfl ?_
  repeat' (first|refine qe ?_|(first|(apply qN Tryz.func189 rfl rfl;intro hIsFn;refine zP ([0]) 0 hIsFn (hput ..) ?_))|((first|refine qb ?_ ?_|refine qc ?_ ?_|refine xsC ?_ ?_);all_goals (intro hc;have hp:=hc;try simp at hp;try (exfalso;omega)))|refine qp ?_ ?_)
  all_goals try (exfalso;omega)
  (refine Jf (rs:=[.tmp 6,.tmp 7]) [(2,1)] 2 ?_;(apply yp 0;exact jj rfl;(repeat (first|exact qf|refine jV ?_|refine qH ?_ ?_)));all_goals trace_state)
 ·rw [if_neg h60] at hE
  subst hE
  refine qa (C:=C1) Tryz.func175 rfl _ Tryz.ntmps175 (Nat.le_of_ble_eq_true rfl) _ Tryz.results175 1 rfl rfl ?_
  repeat' (first|refine qe ?_|(first|(apply qN Tryz.func189 rfl rfl;intro hIsFn;refine zP ([0]) 0 hIsFn (hput ..) ?_))|((first|refine qb ?_ ?_|refine qc ?_ ?_|refine xsC ?_ ?_);all_goals (intro hc;have hp:=hc;try simp at hp;try (exfalso;omega)))|refine qp ?_ ?_)
  all_goals try (exfalso;omega)
  (refine Jf (rs:=[.tmp 6,.tmp 7]) [(2,1)] 2 ?_;(apply yp 0;exact jj rfl;(repeat (first|exact qf|refine jV ?_|refine qH ?_ ?_)));all_goals trace_state)
theorem qh4 (t:List Ent) (c:Chg) (v:Int) (hl:t.length ≤ 1000000) (hs:qv yt t = true) (hk:c.kind = 2) (hlen:(ju t c v).length ≤ 1000001) :
  qo C1.P 175 [.os 0 0 t.length,.agg c.row,.v (.int .i64 v)] [.own false 4 (t.map Ent.row)] (Wl (yw t c v) (ju t c v).length) [.dead,.own false 4 ((ju t c v).map Ent.row)]:=by
 have hput:qo C1.P 189 [.os 0 0 t.length,.agg [.v (str c.path),.v (.bool false),.v (str c.text),.v (.int .i64 v)]] [.own false 4 (t.map Ent.row)] _ _:=qgk t ⟨c.path,false,c.text,v⟩ hl hs
 have hD:ju t c v = xg t ⟨c.path,false,c.text,v⟩:=by simp [ju,hk]
 have hE:yw t c v = if 60 < (ju t c v).length then 2 else 0:=by simp [yw,y7,hk]
 rw [← hD] at hput
 generalize yw t c v = E at *
 generalize ju t c v = L at *
 by_cases h60:60 < L.length
 ·rw [if_pos h60] at hE
  subst hE
  refine qa (C:=C1) Tryz.func175 rfl _ Tryz.ntmps175 (Nat.le_of_ble_eq_true rfl) _ Tryz.results175 1 rfl rfl ?_
  repeat' (first|refine qe ?_|(first|(apply qN Tryz.func189 rfl rfl;intro hIsFn;refine zP ([0]) 0 hIsFn (hput ..) ?_))|((first|refine qb ?_ ?_|refine qc ?_ ?_|refine xsC ?_ ?_);all_goals (intro hc;have hp:=hc;try simp at hp;try (exfalso;omega)))|refine qp ?_ ?_)
  all_goals try (exfalso;omega)
  (refine Jf (rs:=[.tmp 6,.tmp 7]) [(2,1)] 2 ?_;(apply yp 0;exact jj rfl;(repeat (first|exact qf|refine jV ?_|refine qH ?_ ?_)));all_goals trace_state)
 ·rw [if_neg h60] at hE
  subst hE
  refine qa (C:=C1) Tryz.func175 rfl _ Tryz.ntmps175 (Nat.le_of_ble_eq_true rfl) _ Tryz.results175 1 rfl rfl ?_
  repeat' (first|refine qe ?_|(first|(apply qN Tryz.func189 rfl rfl;intro hIsFn;refine zP ([0]) 0 hIsFn (hput ..) ?_))|((first|refine qb ?_ ?_|refine qc ?_ ?_|refine xsC ?_ ?_);all_goals (intro hc;have hp:=hc;try simp at hp;try (exfalso;omega)))|refine qp ?_ ?_)
  all_goals try (exfalso;omega)
  (refine Jf (rs:=[.tmp 6,.tmp 7]) [(2,1)] 2 ?_;(apply yp 0;exact jj rfl;(repeat (first|exact qf|refine jV ?_|refine qH ?_ ?_)));all_goals trace_state)
theorem qhD (t:List Ent) (c:Chg) (v:Int) (hl:t.length ≤ 1000000) (hk:c.kind = 4) (hpl:c.path.length ≤ 140737488355328) :
  qo C1.P 175 [.os 0 0 t.length,.agg c.row,.v (.int .i64 v)] [.own false 4 (t.map Ent.row)] (Wl (yw t c v) (ju t c v).length) [.dead,.own false 4 ((ju t c v).map Ent.row)]:=by
 have hwo:=KP t c.path hl hpl
 have hD:ju t c v = yb (kr c.path) t:=by simp [ju,hk]
 have hE:yw t c v = if 60 < (ju t c v).length then 2 else 0:=by simp [yw,y7,hk]
 have hlen:(ju t c v).length ≤ t.length:=by rw [hD];exact List.length_filter_le ..
 rw [← hD] at hwo
 generalize yw t c v = E at *
 generalize ju t c v = L at *
 by_cases h60:60 < L.length
 ·rw [if_pos h60] at hE
  subst hE
  refine qa (C:=C1) Tryz.func175 rfl _ Tryz.ntmps175 (Nat.le_of_ble_eq_true rfl) _ Tryz.results175 1 rfl rfl ?_
  repeat' (first|refine qe ?_|(first|(apply qN Tryz.func190 rfl rfl;intro hIsFn;refine Qm ([0]) 0 hIsFn (hwo ..) ?_))|((first|refine qb ?_ ?_|refine qc ?_ ?_|refine xsC ?_ ?_);all_goals (intro hc;have hp:=hc;try simp at hp;try (exfalso;omega)))|refine qp ?_ ?_)
  all_goals try (exfalso;omega)
  apply QB (C:=C1) 0 0 L.length
  case hi=>rfl
  case hn=>rfl
  case hr=>exact (List.take_of_length_le (by simp))
  case hnn=>exact Nat.ne_of_beq_eq_false rfl
  case hnx=>exact Nat.le_of_ble_eq_true rfl
  (refine Jf (rs:=[.tmp 6,.tmp 7]) [(2,1)] 2 ?_;(apply yp 0;exact jj rfl;(repeat (first|exact qf|refine jV ?_|refine qH ?_ ?_)));all_goals trace_state)
 ·rw [if_neg h60] at hE
  subst hE
  refine qa (C:=C1) Tryz.func175 rfl _ Tryz.ntmps175 (Nat.le_of_ble_eq_true rfl) _ Tryz.results175 1 rfl rfl ?_
  repeat' (first|refine qe ?_|(first|(apply qN Tryz.func190 rfl rfl;intro hIsFn;refine Qm ([0]) 0 hIsFn (hwo ..) ?_))|((first|refine qb ?_ ?_|refine qc ?_ ?_|refine xsC ?_ ?_);all_goals (intro hc;have hp:=hc;try simp at hp;try (exfalso;omega)))|refine qp ?_ ?_)
  all_goals try (exfalso;omega)
  apply QB (C:=C1) 6 0 L.length
  case hi=>rfl
  case hn=>rfl
  case hr=>exact (List.take_of_length_le (by simp))
  case hnn=>exact Nat.ne_of_beq_eq_false rfl
  case hnx=>exact Nat.le_of_ble_eq_true rfl
  (refine Jf (rs:=[.tmp 6,.tmp 7]) [(2,1)] 2 ?_;(apply yp 0;exact jj rfl;(repeat (first|exact qf|refine jV ?_|refine qH ?_ ?_)));all_goals trace_state)
end Go.Proofs.YtiljlcgmcmjcoaaGreatDoor
set_option linter.unusedSimpArgs false
set_option linter.unnecessarySimpa false
set_option linter.unusedVariables false
namespace Go.Proofs.YtiljlcgmcmjcoaaGreatDoor
open Go.Op
theorem qhb {a b:qC} (h:bytesLess a b = true):bytesLess b a = false:=by
 cases e:bytesLess b a
 ·rfl
 ·have:=vT h e
  rw [xp] at this;cases this
theorem Zy {a b:qC} (h:bytesLess a b = true):¬ a = b:=fun e=>by rw [e,xp] at h;cases h
theorem qiC {a b:qC} (h1:bytesLess a b = false) (h2:¬ a = b):bytesLess b a = true:=by
 rcases w9 a b with ⟨h,_,_⟩|⟨h,_,_⟩|⟨h,_,_⟩
 ·rw [h] at h1;cases h1
 ·exact absurd h h2
 ·exact h
theorem qaw (p:qC) : ∀ {t:List Ent},t.Pairwise (fun a b=>bytesLess a.path b.path = true) → ∃ A M Z,t = A ++ (M ++ Z) ∧ xM t p = A.length ∧ (∀ a,a ∈ A → bytesLess a.path p = true) ∧ (∀ z,z ∈ Z → bytesLess p z.path = true) ∧
  ((yV t p = true ∧ ∃ x,M = [x] ∧ x.path = p) ∨ (yV t p = false ∧ M = []))
 | [],_=>⟨[],[],[],rfl,rfl,nofun,nofun,.inr ⟨rfl,rfl⟩⟩
 | x :: l,h=>by
   obtain ⟨h1,h2⟩:=List.pairwise_cons.1 h
   by_cases hx:bytesLess x.path p = true
   ·obtain ⟨A,M,Z,rfl,hp,hA,hZ,hM⟩:=qaw p h2
    have hp' : xM (x :: (A ++ (M ++ Z))) p = A.length + 1:=by
     simp only [xM,List.takeWhile_cons,hx,if_true,List.length_cons] at hp ⊢;omega
    have hh:yV (x :: (A ++ (M ++ Z))) p = yV (A ++ (M ++ Z)) p:=by
     simp [yV,atP,Zy hx]
    refine ⟨x :: A,M,Z,rfl,hp',fun a ha=>?_,hZ,by rw [hh];exact hM⟩
    rcases List.mem_cons.1 ha with rfl|ha
    ·exact hx
    ·exact hA a ha
   ·have hx:bytesLess x.path p = false:=by simpa using hx
    have hp:xM (x :: l) p = 0:=by simp [xM,List.takeWhile_cons,hx]
    by_cases e:x.path = p
    ·subst e
     exact ⟨[],[x],l,rfl,hp,nofun,fun z hz=>h1 z hz,.inl ⟨by simp [yV,atP],x,rfl,rfl⟩⟩
    ·have hg:=qiC hx e
     have hall : ∀ z,z ∈ x :: l → bytesLess p z.path = true:=fun z hz=>by
      rcases List.mem_cons.1 hz with rfl|hz
      ·exact hg
      ·exact vT hg (h1 z hz)
     refine ⟨[],[],x :: l,rfl,hp,nofun,hall,.inr ⟨List.any_eq_false.2 fun z hz=>?_,rfl⟩⟩
     have:=Zy (hall z hz)
     simp only [atP,decide_eq_true_eq]
     exact fun e=>this e.symm
theorem YL {t A M Z:List Ent} {x:Ent} (h:t = A ++ (M ++ Z)) (hp:xM t x.path = A.length) (hM:(yV t x.path = true ∧ ∃ y,M = [y] ∧ y.path = x.path) ∨ (yV t x.path = false ∧ M = [])):xg t x = A ++ ([x] ++ Z):=by
 unfold xg
 rw [hp]
 have h1:t.take A.length = A:=by rw [h];simp
 rw [h1]
 rcases hM with ⟨hh,y,rfl,_⟩|⟨hh,rfl⟩
 ·simp only [hh,if_true];rw [h];simp
 ·simp only [hh,Bool.false_eq_true,if_false];rw [h];simp
theorem qaM (t:List Ent) (x:Ent):(xg t x).length ≤ t.length + 1:=by
 unfold xg;split<;>simp<;>omega
theorem wb {t:List Ent} {x:Ent} (hs:qv yt t = true):qv yt (xg t x) = true:=by
 have hl:=zf.1 hs
 obtain ⟨A,M,Z,h,hp,hA,hZ,hM⟩:=qaw x.path hl
 rw [YL h hp hM]
 refine zf.2 ?_
 have hsub:(A ++ Z).Sublist t:=by
  rw [h];exact List.Sublist.append_left (List.sublist_append_right _ _) _
 obtain ⟨pA,pZ,pAZ⟩:=List.pairwise_append.1 (hl.sublist hsub)
 refine List.pairwise_append.2 ⟨pA,List.pairwise_cons.2 ⟨fun z hz=>hZ z hz,pZ⟩,fun a ha b hb=>?_⟩
 rcases List.mem_cons.1 hb with rfl|hb
 ·exact hA a ha
 ·exact pAZ a ha b hb
theorem kw {p:Ent → Bool} {t:List Ent} (hs:qv yt t = true):qv yt (yb p t) = true:=zf.2 ((zf.1 hs).sublist List.filter_sublist)
theorem kV : ∀ {l t:List Ent},qv yt t = true → qv yt (l.foldl xg t) = true
 | [],_,h=>h
 | x :: l,t,h=>kV (l:=l) (wb h)
theorem QZ : ∀ (l t:List Ent),(l.foldl xg t).length ≤ t.length + l.length
 | [],_=>by simp
 | x :: l,t=>by
   have h1:=QZ l (xg t x)
   have h2:=qaM t x
   simp only [List.foldl_cons,List.length_cons];omega
theorem qbS {l t:List Ent} {i:Nat} (h:i < l.length):(l.take (i + 1)).foldl xg t = xg ((l.take i).foldl xg t) l[i]:=by
 rw [List.take_succ_eq_append_getElem h,List.foldl_append];rfl
theorem jt {p:qC} (h:qM p = 0):p.length ≤ 80:=by
 have:yF p = false:=by
  unfold qM at h
  split at h
  ·split at h
   ·exact absurd h (by decide)
   ·rename_i h2;simpa using h2
  ·exact absurd h (by decide)
 simp [yF] at this;omega
theorem JH {p f t:qC} (hp:qM p = 0) (hf:qM f = 0) (ht:qM t = 0) (hi:inB p f = true):zj p f t = if yF (t ++ p.drop f.length) = true then 2 else 0:=by
 unfold zj
 rw [if_pos (by simp [y6,hp,hf,ht]),if_pos hi]
theorem Vg {t:List Ent} {c:Chg} {v:Int} {i:Nat} (h:i < t.length):jz (t.take (i + 1)) c v = if inB t[i].path c.path = true then jz (t.take i) c v ++ [y8 c v t[i]] else jz (t.take i) c v:=by
 unfold jz
 rw [List.take_succ_eq_append_getElem h,List.filter_append]
 cases hs:inB t[i].path c.path<;>simp [hs,kr]
end Go.Proofs.YtiljlcgmcmjcoaaGreatDoor
set_option linter.unusedSimpArgs false
set_option linter.unnecessarySimpa false
set_option linter.unusedVariables false
namespace Go.Proofs.YtiljlcgmcmjcoaaGreatDoor
open Go.Op
def xW (x:Ent) (s:List Ent × Bool) (y:Ent):List Ent × Bool :=
 ((if s.2 = false ∧ bytesLess y.path x.path = false then s.1 ++ [x] else s.1) ++ (if y.path = x.path then [] else [y]),s.2 || !bytesLess y.path x.path)
def zp (t:List Ent) (x:Ent):List Ent × Bool:=t.foldl (xW x) ([],false)
def qbi (t:List Ent) (x:Ent):List Ent:=if (zp t x).2 = true then (zp t x).1 else (zp t x).1 ++ [x]
theorem qeq {t:List Ent} {x:Ent} {i:Nat} (h:i < t.length):zp (t.take (i + 1)) x = xW x (zp (t.take i) x) t[i]:=by
 unfold zp
 rw [List.take_succ_eq_append_getElem h,List.foldl_append];rfl
theorem qfK (t:List Ent) (x:Ent):(zp t x).1.length ≤ 2 * t.length:=by
 have : ∀ (l:List Ent) (s:List Ent × Bool),(l.foldl (xW x) s).1.length ≤ s.1.length + 2 * l.length:=by
  intro l
  induction l with
  | nil=>intro s;simp
  | cons y l ih =>
    intro s
    have h1:=ih (xW x s y)
    have hq:(xW x s y).1.length ≤ s.1.length + 2:=by
     unfold xW
     simp only [List.length_append]
     split<;>split<;>simp
    simp only [List.foldl_cons,List.length_cons]
    omega
 have:=this t ([],false)
 simpa [zp] using this
theorem qbV {x:Ent} : ∀ {A:List Ent} {s:List Ent},(∀ a,a ∈ A → bytesLess a.path x.path = true) → A.foldl (xW x) (s,false) = (s ++ A,false)
 | [],s,_=>by simp
 | a :: A,s,h=>by
   have ha:=h a (by simp)
   have hs:xW x (s,false) a = (s ++ [a],false):=by
    simp [xW,ha,Zy ha]
   rw [List.foldl_cons,hs,qbV fun y hy=>h y (by simp [hy])]
   simp
theorem XG {x:Ent} : ∀ {Z:List Ent} {s:List Ent},(∀ z,z ∈ Z → bytesLess x.path z.path = true) → Z.foldl (xW x) (s,true) = (s ++ Z,true)
 | [],s,_=>by simp
 | z :: Z,s,h=>by
   have hz:=h z (by simp)
   have hs:xW x (s,true) z = (s ++ [z],true):=by
    have:¬ z.path = x.path:=fun e=>Zy hz e.symm
    simp [xW,this]
   rw [List.foldl_cons,hs,XG fun y hy=>h y (by simp [hy])]
   simp
theorem Yf {t:List Ent} {x:Ent} (hs:qv yt t = true):qbi t x = xg t x:=by
 obtain ⟨A,M,Z,h,hp,hA,hZ,hM⟩:=qaw x.path (zf.1 hs)
 rw [YL h hp hM]
 have h1:zp t x = Z.foldl (xW x) (M.foldl (xW x) (A,false)):=by
  unfold zp
  rw [h,List.foldl_append,List.foldl_append,qbV hA,List.nil_append]
 rcases hM with ⟨_,y,rfl,hy⟩|⟨_,rfl⟩
 ·have h2:xW x (A,false) y = (A ++ [x],true):=by simp [xW,hy,xp]
  rw [List.foldl_cons,List.foldl_nil,h2,XG hZ] at h1
  simp [qbi,h1]
 ·rw [List.foldl_nil] at h1
  cases Z with
  | nil=>simp at h1;simp [qbi,h1]
  | cons z Z =>
    have hz:=hZ z (by simp)
    have h2:xW x (A,false) z = (A ++ [x] ++ [z],true):=by
     have h3:¬ z.path = x.path:=fun e=>Zy hz e.symm
     simp [xW,qhb hz,h3]
    rw [List.foldl_cons,h2,XG fun y hy=>hZ y (by simp [hy])] at h1
    simp [qbi,h1]
end Go.Proofs.YtiljlcgmcmjcoaaGreatDoor
set_option linter.unusedSimpArgs false
set_option linter.unnecessarySimpa false
set_option linter.unusedVariables false
set_option maxHeartbeats 1000000
namespace Go.Proofs.YtiljlcgmcmjcoaaGreatDoor
open Go.Ab Go.RowKit
set_option maxRecDepth 10000
attribute [local irreducible] Awp ye ji qQ Red qF Go.Ab.Fin qo Rz xx qG qO ResOk jK je jX qW
def ku (t:List Ent) (c:Chg) (i:Nat):Bool:=((t.take i).filter (kr c.path)).any fun x=>yF (c.to ++ x.path.drop c.path.length)
theorem qbl {t:List Ent} {c:Chg} {i:Nat} (h:i < t.length):ku t c (i + 1) = (ku t c i || (inB t[i].path c.path && yF (c.to ++ t[i].path.drop c.path.length))):=by
 unfold ku
 rw [List.take_succ_eq_append_getElem h,List.filter_append,List.any_append]
 cases hs:inB t[i].path c.path<;>simp [hs,kr]
theorem qb6 (t:List Ent) (c:Chg) (v:Int) (hl:t.length ≤ 1000000) (hk:c.kind = 3) (hgt : ∀ x,x ∈ t → qM x.path = 0) (hc1:qM c.path = 0) (hc2:qM c.to = 0) (hbad:y7 t c = true) :
  qo C1.P 175 [.os 0 0 t.length,.agg c.row,.v (.int .i64 v)] [.own false 4 (t.map Ent.row)] (.tup [.sl true [],.v (.int .i64 2)]) [.own false 4 (t.map Ent.row)]:=by
 have l1:=jt hc1
 have l2:=jt hc2
 have hml:(t.map Ent.row).length = t.length:=List.length_map ..
 refine qa (C:=C1) Tryz.func175 rfl _ Tryz.ntmps175 (Nat.le_of_ble_eq_true rfl) _ Tryz.results175 1 rfl rfl ?_
 repeat' (first|refine qe ?_|fail|((first|refine qb ?_ ?_|refine qc ?_ ?_|refine xsC ?_ ?_);all_goals (intro hc;have hp:=hc;try simp at hp;try (exfalso;omega)))|refine qp ?_ ?_)
 all_goals try (exfalso;omega)
 refine Awp.red (C:=C1) (zd 8 4 rfl (Nat.le_of_ble_eq_true rfl)) ?_
 (refine Awp.red (qY (τ:=⟨[(0,.os 0 0 t.length),(2,.v (.int .i64 v)),(4,.op 1 0 0),(8,.os 2 0 0),(43,.os 0 0 t.length),(44,.v (.int .i64 t.length)),(45,.v (.int .i64 ((0:Nat):Int)))],[(0,.own false 4 (t.map Ent.row)),(1,.own false 5 [c.row]),(2,.own false 4 [])],3⟩) [(1,1),(2,2)] rfl ?gts ?ghs) ?gmain;(case gts=>(repeat (first|exact qd|refine qi ?_|refine xd ?_|refine xL ?_|refine qI ?_ ?_)));(case ghs=>(repeat (first|exact qf|refine jV ?_|refine qH ?_ ?_))))
 refine qq (C:=C1) (fun n σ => ∃ i:Nat,i ≤ t.length ∧ n = t.length - i ∧ ku t c i = false ∧ σ = ⟨[(0,.os 0 0 t.length),(2,.v (.int .i64 v)),(4,.op 1 0 0),(8,.os 2 0 (jz (t.take i) c v).length),(43,.os 0 0 t.length),(44,.v (.int .i64 t.length)),(45,.v (.int .i64 (i:Int)))],[(0,.own false 4 (t.map Ent.row)),(1,.own false 5 [c.row]),(2,.own false 4 ((jz (t.take i) c v).map Ent.row))],3⟩) t.length ⟨0,Nat.zero_le _,rfl,rfl,rfl⟩ ?_
 rintro n σ ⟨i,hi,rfl,hsofar,rfl⟩
 have hgl:(jz (t.take i) c v).length ≤ i:=by
  unfold jz
  rw [List.length_map]
  have h1:((t.take i).filter (kr c.path)).length ≤ (t.take i).length:=List.length_filter_le ..
  simp at h1;omega
 by_cases hlt:i < t.length
 ·have hr:=qx (f:=Ent.row) hlt
  have hpx:=hgt t[i] (List.getElem_mem _)
  have lx:=jt hpx
  have hin:=qek t[i].path c.path (by omega)
  have hgs := @Vg t c v i hlt
  have hmv:=qdT t[i].path c.path c.to (by omega) (by omega) (by omega)
  have hme := @JH t[i].path c.path c.to hpx hc1 hc2
  have hbs := @qbl t c i hlt
  rw [hsofar] at hbs
  have hmt : ∀ w,(if t[i].path = c.path then v else t[i].ver) = w → (y8 c v t[i]).row = [.v (str (c.to ++ t[i].path.drop c.path.length)),.v (.bool t[i].fold),.v (str t[i].text),.v (.int .i64 w)]:=fun w hw=>by simp [y8,Ent.row,hw]
  generalize hG:jz (t.take i) c v = G at hgl hgs ⊢
  generalize inB t[i].path c.path = I at *
  cases I with
  | false =>
    rw [if_neg (by decide)] at hgs
    have hbs:ku t c (i + 1) = false:=hbs
    repeat' (first|refine qe ?_|(first|(refine vV ?_)|(refine jN ?_)|(refine yX ?_)|refine xsF Tryz.func186 (hin ..) ?_|refine xsQ Tryz.func191 (hmv ..) ?_)|((first|refine qb ?_ ?_|refine qc ?_ ?_|refine xsC ?_ ?_);all_goals (intro hc;have hp:=hc;try simp at hp;try (exfalso;omega)))|refine qp ?_ ?_)
    all_goals try (exfalso;omega)
    refine ⟨t.length - (i + 1),_,by omega,qY (τ:=⟨[(0,.os 0 0 t.length),(2,.v (.int .i64 v)),(4,.op 1 0 0),(8,.os 2 0 (jz (t.take (i + 1)) c v).length),(43,.os 0 0 t.length),(44,.v (.int .i64 t.length)),(45,.v (.int .i64 ((i + 1:Nat):Int)))],[(0,.own false 4 (t.map Ent.row)),(1,.own false 5 [c.row]),(2,.own false 4 ((jz (t.take (i + 1)) c v).map Ent.row))],3⟩) [(1,1),(2,2)] rfl ?gts ?ghs,i + 1,by omega,rfl,(hbs),rfl⟩;(case gts=>(repeat (first|exact qd|refine qi ?_|refine xd ?_|refine xL ?_|refine qI ?_ ?_));all_goals (rw [hgs]));(case ghs=>(repeat (first|exact qf|refine jV ?_|refine qH ?_ ?_));all_goals (rw [hgs]))
  | true =>
    have hme2:=hme rfl
    clear hme
    rw [if_pos rfl] at hgs
    have hlen1:(jz (t.take (i + 1)) c v).length = G.length + 1:=by rw [hgs];simp
    generalize c.to ++ t[i].path.drop c.path.length = Q at *
    generalize zj t[i].path c.path c.to = E at *
    cases hq:yF Q with
    | true =>
      rw [hq,if_pos rfl] at hme2
      subst hme2
      repeat' (first|refine qe ?_|(first|(refine vV ?_)|(refine jN ?_)|(refine yX ?_)|refine xsF Tryz.func186 (hin ..) ?_|refine xsQ Tryz.func191 (hmv ..) ?_)|((first|refine qb ?_ ?_|refine qc ?_ ?_|refine xsC ?_ ?_);all_goals (intro hc;have hp:=hc;try simp at hp;try (exfalso;omega)))|refine qp ?_ ?_)
      all_goals try (exfalso;omega)
      all_goals ((refine Jf (rs:=[.tmp 6,.tmp 7]) [] 1 ?_;(repeat (first|exact qf|refine jV ?_|refine qH ?_ ?_));all_goals trace_state))
    | false =>
      rw [hq,if_neg (by decide)] at hme2
      subst hme2
      rw [hq] at hbs
      have hbs:ku t c (i + 1) = false:=hbs
      repeat' (first|refine qe ?_|(first|(refine vV ?_)|(refine jN ?_)|(refine yX ?_)|refine xsF Tryz.func186 (hin ..) ?_|refine xsQ Tryz.func191 (hmv ..) ?_)|((first|refine qb ?_ ?_|refine qc ?_ ?_|refine xsC ?_ ?_);all_goals (intro hc;have hp:=hc;try simp at hp;try (exfalso;omega)))|refine qp ?_ ?_)
      all_goals try (exfalso;omega)
      ·have hrow:=hmt v (if_pos (by assumption))
       clear hmt hin hmv hgt hpx lx hr hq hbad
       refine ⟨t.length - (i + 1),_,by omega,qY (τ:=⟨[(0,.os 0 0 t.length),(2,.v (.int .i64 v)),(4,.op 1 0 0),(8,.os 2 0 (jz (t.take (i + 1)) c v).length),(43,.os 0 0 t.length),(44,.v (.int .i64 t.length)),(45,.v (.int .i64 ((i + 1:Nat):Int)))],[(0,.own false 4 (t.map Ent.row)),(1,.own false 5 [c.row]),(2,.own false 4 ((jz (t.take (i + 1)) c v).map Ent.row))],3⟩) [(1,1),(4,2)] rfl ?gts ?ghs,i + 1,by omega,rfl,(hbs),rfl⟩;(case gts=>(repeat (first|exact qd|refine qi ?_|refine xd ?_|refine xL ?_|refine qI ?_ ?_));all_goals (first|(rw [hlen1];done)|(rw [hgs,List.map_append,List.take_of_length_le (by simp)];show _ = _ ++ [(y8 c v t[i]).row];rw [hrow];rfl)));(case ghs=>(repeat (first|exact qf|refine jV ?_|refine qH ?_ ?_));all_goals (first|(rw [hlen1];done)|(rw [hgs,List.map_append,List.take_of_length_le (by simp)];show _ = _ ++ [(y8 c v t[i]).row];rw [hrow];rfl)))
      ·have hrow:=hmt t[i].ver (if_neg (by assumption))
       clear hmt hin hmv hgt hpx lx hr hq hbad
       refine ⟨t.length - (i + 1),_,by omega,qY (τ:=⟨[(0,.os 0 0 t.length),(2,.v (.int .i64 v)),(4,.op 1 0 0),(8,.os 2 0 (jz (t.take (i + 1)) c v).length),(43,.os 0 0 t.length),(44,.v (.int .i64 t.length)),(45,.v (.int .i64 ((i + 1:Nat):Int)))],[(0,.own false 4 (t.map Ent.row)),(1,.own false 5 [c.row]),(2,.own false 4 ((jz (t.take (i + 1)) c v).map Ent.row))],3⟩) [(1,1),(4,2)] rfl ?gts ?ghs,i + 1,by omega,rfl,(hbs),rfl⟩;(case gts=>(repeat (first|exact qd|refine qi ?_|refine xd ?_|refine xL ?_|refine qI ?_ ?_));all_goals (first|(rw [hlen1];done)|(rw [hgs,List.map_append,List.take_of_length_le (by simp)];show _ = _ ++ [(y8 c v t[i]).row];rw [hrow];rfl)));(case ghs=>(repeat (first|exact qf|refine jV ?_|refine qH ?_ ?_));all_goals (first|(rw [hlen1];done)|(rw [hgs,List.map_append,List.take_of_length_le (by simp)];show _ = _ ++ [(y8 c v t[i]).row];rw [hrow];rfl)))
 ·obtain rfl:i = t.length:=by omega
  unfold ku at hsofar
  rw [List.take_length] at hsofar
  simp only [y7,hk,hsofar] at hbad
  simp at hbad
theorem qcv (t:List Ent) (c:Chg) (v:Int) (hl:t.length ≤ 400000) (hk:c.kind = 3) (hgt : ∀ x,x ∈ t → qM x.path = 0) (hc1:qM c.path = 0) (hc2:qM c.to = 0) (hbad:y7 t c = false) (hs:qv yt t = true) :
  qo C1.P 175 [.os 0 0 t.length,.agg c.row,.v (.int .i64 v)] [.own false 4 (t.map Ent.row)] (Wl (yw t c v) (ju t c v).length) [.dead,.own false 4 ((ju t c v).map Ent.row)]:=by
 have l1:=jt hc1
 have l2:=jt hc2
 have hnb : ∀ x,x ∈ t → inB x.path c.path = true → yF (c.to ++ x.path.drop c.path.length) = false:=fun x hx hi=>by
  simp only [y7,hk,decide_true,Bool.true_and,List.any_eq_false] at hbad
  simpa using hbad x (List.mem_filter.2 ⟨hx,hi⟩)
 have hwo:=KP t c.path (by omega) (by omega)
 have hD:ju t c v = (jz t c v).foldl xg (yb (kr c.path) t):=by simp [ju,hk]
 have hE:yw t c v = if 60 < (ju t c v).length then 2 else 0:=by simp [yw,hbad]
 have hkl:(yb (kr c.path) t).length ≤ t.length:=List.length_filter_le ..
 have hkr:=kw (p:=kr c.path) hs
 have hml:(t.map Ent.row).length = t.length:=List.length_map ..
 refine qa (C:=C1) Tryz.func175 rfl _ Tryz.ntmps175 (Nat.le_of_ble_eq_true rfl) _ Tryz.results175 1 rfl rfl ?_
 repeat' (first|refine qe ?_|fail|((first|refine qb ?_ ?_|refine qc ?_ ?_|refine xsC ?_ ?_);all_goals (intro hc;have hp:=hc;try simp at hp;try (exfalso;omega)))|refine qp ?_ ?_)
 all_goals try (exfalso;omega)
 refine Awp.red (C:=C1) (zd 8 4 rfl (Nat.le_of_ble_eq_true rfl)) ?_
 (refine Awp.red (qY (τ:=⟨[(0,.os 0 0 t.length),(2,.v (.int .i64 v)),(4,.op 1 0 0),(8,.os 2 0 0),(43,.os 0 0 t.length),(44,.v (.int .i64 t.length)),(45,.v (.int .i64 ((0:Nat):Int)))],[(0,.own false 4 (t.map Ent.row)),(1,.own false 5 [c.row]),(2,.own false 4 [])],3⟩) [(1,1),(2,2)] rfl ?gts ?ghs) ?gmain;(case gts=>(repeat (first|exact qd|refine qi ?_|refine xd ?_|refine xL ?_|refine qI ?_ ?_)));(case ghs=>(repeat (first|exact qf|refine jV ?_|refine qH ?_ ?_))))
 refine qq (C:=C1) (fun n σ => ∃ i:Nat,i ≤ t.length ∧ n = t.length - i ∧ True ∧ σ = ⟨[(0,.os 0 0 t.length),(2,.v (.int .i64 v)),(4,.op 1 0 0),(8,.os 2 0 (jz (t.take i) c v).length),(43,.os 0 0 t.length),(44,.v (.int .i64 t.length)),(45,.v (.int .i64 (i:Int)))],[(0,.own false 4 (t.map Ent.row)),(1,.own false 5 [c.row]),(2,.own false 4 ((jz (t.take i) c v).map Ent.row))],3⟩) t.length ⟨0,Nat.zero_le _,rfl,trivial,rfl⟩ ?_
 rintro n σ ⟨i,hi,rfl, -,rfl⟩
 have hgl:(jz (t.take i) c v).length ≤ i:=by
  unfold jz
  rw [List.length_map]
  have h1:((t.take i).filter (kr c.path)).length ≤ (t.take i).length:=List.length_filter_le ..
  simp at h1;omega
 by_cases hlt:i < t.length
 ·have hr:=qx (f:=Ent.row) hlt
  have hpx:=hgt t[i] (List.getElem_mem _)
  have lx:=jt hpx
  have hin:=qek t[i].path c.path (by omega)
  have hgs := @Vg t c v i hlt
  have hmv:=qdT t[i].path c.path c.to (by omega) (by omega) (by omega)
  have hme := @JH t[i].path c.path c.to hpx hc1 hc2
  have hnb1:=hnb t[i] (List.getElem_mem _)
  have hmt : ∀ w,(if t[i].path = c.path then v else t[i].ver) = w → (y8 c v t[i]).row = [.v (str (c.to ++ t[i].path.drop c.path.length)),.v (.bool t[i].fold),.v (str t[i].text),.v (.int .i64 w)]:=fun w hw=>by simp [y8,Ent.row,hw]
  generalize hG:jz (t.take i) c v = G at hgl hgs ⊢
  generalize inB t[i].path c.path = I at *
  cases I with
  | false =>
    rw [if_neg (by decide)] at hgs
    repeat' (first|refine qe ?_|(first|(refine vV ?_)|(refine jN ?_)|(refine yX ?_)|refine xsF Tryz.func186 (hin ..) ?_|refine xsQ Tryz.func191 (hmv ..) ?_)|((first|refine qb ?_ ?_|refine qc ?_ ?_|refine xsC ?_ ?_);all_goals (intro hc;have hp:=hc;try simp at hp;try (exfalso;omega)))|refine qp ?_ ?_)
    all_goals try (exfalso;omega)
    refine ⟨t.length - (i + 1),_,by omega,qY (τ:=⟨[(0,.os 0 0 t.length),(2,.v (.int .i64 v)),(4,.op 1 0 0),(8,.os 2 0 (jz (t.take (i + 1)) c v).length),(43,.os 0 0 t.length),(44,.v (.int .i64 t.length)),(45,.v (.int .i64 ((i + 1:Nat):Int)))],[(0,.own false 4 (t.map Ent.row)),(1,.own false 5 [c.row]),(2,.own false 4 ((jz (t.take (i + 1)) c v).map Ent.row))],3⟩) [(1,1),(2,2)] rfl ?gts ?ghs,i + 1,by omega,rfl,trivial,rfl⟩;(case gts=>(repeat (first|exact qd|refine qi ?_|refine xd ?_|refine xL ?_|refine qI ?_ ?_));all_goals (rw [hgs]));(case ghs=>(repeat (first|exact qf|refine jV ?_|refine qH ?_ ?_));all_goals (rw [hgs]))
  | true =>
    have hme2:=hme rfl
    clear hme
    rw [if_pos rfl] at hgs
    have hlen1:(jz (t.take (i + 1)) c v).length = G.length + 1:=by rw [hgs];simp
    generalize c.to ++ t[i].path.drop c.path.length = Q at *
    generalize zj t[i].path c.path c.to = E at *
    have hq:yF Q = false:=hnb1 rfl
    rw [hq,if_neg (by decide)] at hme2
    subst hme2
    repeat' (first|refine qe ?_|(first|(refine vV ?_)|(refine jN ?_)|(refine yX ?_)|refine xsF Tryz.func186 (hin ..) ?_|refine xsQ Tryz.func191 (hmv ..) ?_)|((first|refine qb ?_ ?_|refine qc ?_ ?_|refine xsC ?_ ?_);all_goals (intro hc;have hp:=hc;try simp at hp;try (exfalso;omega)))|refine qp ?_ ?_)
    all_goals try (exfalso;omega)
    ·have hrow:=hmt v (if_pos (by assumption))
     clear hmt hin hmv hgt hpx lx hr hq hnb hnb1 hwo hE hD
     refine ⟨t.length - (i + 1),_,by omega,qY (τ:=⟨[(0,.os 0 0 t.length),(2,.v (.int .i64 v)),(4,.op 1 0 0),(8,.os 2 0 (jz (t.take (i + 1)) c v).length),(43,.os 0 0 t.length),(44,.v (.int .i64 t.length)),(45,.v (.int .i64 ((i + 1:Nat):Int)))],[(0,.own false 4 (t.map Ent.row)),(1,.own false 5 [c.row]),(2,.own false 4 ((jz (t.take (i + 1)) c v).map Ent.row))],3⟩) [(1,1),(4,2)] rfl ?gts ?ghs,i + 1,by omega,rfl,trivial,rfl⟩;(case gts=>(repeat (first|exact qd|refine qi ?_|refine xd ?_|refine xL ?_|refine qI ?_ ?_));all_goals (first|(rw [hlen1];done)|(rw [hgs,List.map_append,List.take_of_length_le (by simp)];show _ = _ ++ [(y8 c v t[i]).row];rw [hrow];rfl)));(case ghs=>(repeat (first|exact qf|refine jV ?_|refine qH ?_ ?_));all_goals (first|(rw [hlen1];done)|(rw [hgs,List.map_append,List.take_of_length_le (by simp)];show _ = _ ++ [(y8 c v t[i]).row];rw [hrow];rfl)))
    ·have hrow:=hmt t[i].ver (if_neg (by assumption))
     clear hmt hin hmv hgt hpx lx hr hq hnb hnb1 hwo hE hD
     refine ⟨t.length - (i + 1),_,by omega,qY (τ:=⟨[(0,.os 0 0 t.length),(2,.v (.int .i64 v)),(4,.op 1 0 0),(8,.os 2 0 (jz (t.take (i + 1)) c v).length),(43,.os 0 0 t.length),(44,.v (.int .i64 t.length)),(45,.v (.int .i64 ((i + 1:Nat):Int)))],[(0,.own false 4 (t.map Ent.row)),(1,.own false 5 [c.row]),(2,.own false 4 ((jz (t.take (i + 1)) c v).map Ent.row))],3⟩) [(1,1),(4,2)] rfl ?gts ?ghs,i + 1,by omega,rfl,trivial,rfl⟩;(case gts=>(repeat (first|exact qd|refine qi ?_|refine xd ?_|refine xL ?_|refine qI ?_ ?_));all_goals (first|(rw [hlen1];done)|(rw [hgs,List.map_append,List.take_of_length_le (by simp)];show _ = _ ++ [(y8 c v t[i]).row];rw [hrow];rfl)));(case ghs=>(repeat (first|exact qf|refine jV ?_|refine qH ?_ ?_));all_goals (first|(rw [hlen1];done)|(rw [hgs,List.map_append,List.take_of_length_le (by simp)];show _ = _ ++ [(y8 c v t[i]).row];rw [hrow];rfl)))
 obtain rfl:i = t.length:=by omega
 have hgl2:(jz t c v).length ≤ t.length:=by rw [List.take_length] at hgl;exact hgl
 rw [List.take_length]
 generalize hK:yb (kr c.path) t = K at *
 generalize hGo:jz t c v = G at *
 generalize yw t c v = E at *
 clear hnb hgl
 repeat' (first|refine qe ?_|(first|(apply qN Tryz.func190 rfl rfl;intro hIsFn;refine Qm ([0]) 0 hIsFn (hwo ..) ?_))|((first|refine qb ?_ ?_|refine qc ?_ ?_|refine xsC ?_ ?_);all_goals (intro hc;have hp:=hc;try simp at hp;try (exfalso;omega)))|refine qp ?_ ?_)
 all_goals try (exfalso;omega)
 refine Awp.red (C:=C1) (qaO 0 0 K.length rfl rfl (List.take_of_length_le (by simp)) (Nat.ne_of_beq_eq_false rfl) (Nat.le_of_ble_eq_true rfl)) ?_
 (refine Awp.red (qY (τ:=⟨[(0,.os 2 0 ((G.take 0).foldl xg K).length),(86,.os 1 0 G.length),(87,.v (.int .i64 G.length)),(88,.v (.int .i64 ((0:Nat):Int)))],[(1,.own false 4 (G.map Ent.row)),(2,.own false 4 (((G.take 0).foldl xg K).map Ent.row))],3⟩) [(2,1),(3,2)] rfl ?gts2 ?ghs2) ?gmain2;(case gts2=>(repeat (first|exact qd|refine qi ?_|refine xd ?_|refine xL ?_|refine qI ?_ ?_));all_goals skip);(case ghs2=>(repeat (first|exact qf|refine jV ?_|refine qH ?_ ?_))))
 refine qq (C:=C1) (fun n σ => ∃ i:Nat,i ≤ G.length ∧ n = G.length - i ∧ True ∧ σ = ⟨[(0,.os 2 0 ((G.take i).foldl xg K).length),(86,.os 1 0 G.length),(87,.v (.int .i64 G.length)),(88,.v (.int .i64 (i:Int)))],[(1,.own false 4 (G.map Ent.row)),(2,.own false 4 (((G.take i).foldl xg K).map Ent.row))],3⟩) G.length ⟨0,Nat.zero_le _,rfl,trivial,rfl⟩ ?_
 rintro n σ ⟨i,hi,rfl, -,rfl⟩
 have hLr:=kV (l:=G.take i) hkr
 have hLl:=QZ (G.take i) K
 have hLs:=fun h => @qbS G K i h
 have htl:(G.take i).length ≤ G.length:=by simp;omega
 by_cases hlt:i < G.length
 ·have hr:=qx (f:=Ent.row) hlt
  have hLs:=hLs hlt
  generalize (G.take i).foldl xg K = L at *
  have hput:=qgk L G[i] (by omega) hLr
  rw [← hLs] at hput
  repeat' (first|refine qe ?_|(first|(refine vV ?_)|(apply qN Tryz.func189 rfl rfl;intro hIsFn;refine zP ([2]) 2 hIsFn (hput ..) ?_))|((first|refine qb ?_ ?_|refine qc ?_ ?_|refine xsC ?_ ?_);all_goals (intro hc;have hp:=hc;try simp at hp;try (exfalso;omega)))|refine qp ?_ ?_)
  all_goals try (exfalso;omega)
  clear hLr hLl hput hr hwo hE hD hkr
  refine ⟨G.length - (i + 1),_,by omega,qY (τ:=⟨[(0,.os 2 0 ((G.take (i + 1)).foldl xg K).length),(86,.os 1 0 G.length),(87,.v (.int .i64 G.length)),(88,.v (.int .i64 ((i + 1:Nat):Int)))],[(1,.own false 4 (G.map Ent.row)),(2,.own false 4 (((G.take (i + 1)).foldl xg K).map Ent.row))],3⟩) [(1,1),(4,2)] rfl ?gts ?ghs,i + 1,by omega,rfl,trivial,rfl⟩;(case gts=>(repeat (first|exact qd|refine qi ?_|refine xd ?_|refine xL ?_|refine qI ?_ ?_)));(case ghs=>(repeat (first|exact qf|refine jV ?_|refine qH ?_ ?_)))
 obtain rfl:i = G.length:=by omega
 rw [List.take_length] at *
 rw [← hD] at *
 generalize ju t c v = L at *
 by_cases h60:60 < L.length
 ·rw [if_pos h60] at hE
  subst hE
  repeat' (first|refine qe ?_|fail|((first|refine qb ?_ ?_|refine qc ?_ ?_|refine xsC ?_ ?_);all_goals (intro hc;have hp:=hc;try simp at hp;try (exfalso;omega)))|refine qp ?_ ?_)
  all_goals try (exfalso;omega)
  (refine Jf (rs:=[.tmp 6,.tmp 7]) [(2,1)] 2 ?_;(apply yp 0;exact jj rfl;(repeat (first|exact qf|refine jV ?_|refine qH ?_ ?_)));all_goals trace_state)
 ·rw [if_neg h60] at hE
  subst hE
  repeat' (first|refine qe ?_|fail|((first|refine qb ?_ ?_|refine qc ?_ ?_|refine xsC ?_ ?_);all_goals (intro hc;have hp:=hc;try simp at hp;try (exfalso;omega)))|refine qp ?_ ?_)
  all_goals try (exfalso;omega)
  (refine Jf (rs:=[.tmp 6,.tmp 7]) [(2,1)] 2 ?_;(apply yp 0;exact jj rfl;(repeat (first|exact qf|refine jV ?_|refine qH ?_ ?_)));all_goals trace_state)
end Go.Proofs.YtiljlcgmcmjcoaaGreatDoor
set_option linter.unusedSimpArgs false
set_option linter.unnecessarySimpa false
namespace Go.Proofs.YtiljlcgmcmjcoaaGreatDoor
theorem qcB {s:qC}:ql s = true ↔ s ≠ [] ∧ s.length ≤ 20 ∧ s ≠ [46] ∧ s ≠ [46,46] ∧ s.head? ≠ some 32 ∧ s.getLast? ≠ some 32 ∧ ∀ c,c ∈ s → okB c = true:=by
 simp [ql,and_assoc]
theorem qaV {s:qC} (h:ql s = true):(47:UInt8) ∉ s:=fun hm=>by
 have:=(qcB.1 h).2.2.2.2.2.2 47 hm
 exact absurd this (by decide)
theorem qcT:ql [] = false:=by simp [ql]
theorem wB {p:qC}:qM p = 0 ↔ (∀ n,n ∈ qm p → ql n = true) ∧ yF p = false:=by
 unfold qM
 constructor
 ·intro h
  split at h
  ·rename_i h1
   split at h
   ·exact absurd h (by decide)
   ·rename_i h2
    exact ⟨List.all_eq_true.1 h1,by simpa using h2⟩
  ·exact absurd h (by decide)
 ·rintro ⟨h1,h2⟩
  rw [if_pos (List.all_eq_true.2 h1),h2];rfl
theorem We {a b:qC} (h:(47:UInt8) ∉ b):qR (a ++ 47 :: b) = a ∧ vp (a ++ 47 :: b) = b:=by
 rw [qR,vp,Qf h]
 refine ⟨by rw [show (a.length:Int).toNat = a.length from by omega,List.take_left],?_⟩
 rw [show ((a.length:Int) + 1).toNat = a.length + 1 from by omega,List.drop_append,List.drop_of_length_le (by omega),List.nil_append,show a.length + 1 - a.length = 1 from by omega];rfl
theorem xF {p:qC} {l:List qC}:y6 (p :: l) = 0 ↔ qM p = 0 ∧ y6 l = 0:=by
 show (if qM p = 0 then y6 l else qM p) = 0 ↔ _
 split
 ·rename_i h;simp [h]
 ·rename_i h;simp [h]
theorem qce {p f t:qC} (h:zj p f t = 0) :
  zj (t ++ p.drop f.length) t f = 0 ∧ y6 [t ++ p.drop f.length,t] = 0 ∧ inB (t ++ p.drop f.length) t = true ∧ f ++ (t ++ p.drop f.length).drop t.length = p:=by
 unfold zj at h
 split at h
 case isFalse h'=>exact absurd h h'
 rename_i h0
 split at h
 case isFalse=>exact absurd h (by decide)
 rename_i hi
 split at h
 case isTrue=>exact absurd h (by decide)
 rename_i hg
 obtain ⟨hp,h1⟩:=xF.1 h0
 obtain ⟨hf,h2⟩:=xF.1 h1
 obtain ⟨ht, -⟩:=xF.1 h2
 obtain ⟨np,gp⟩:=wB.1 hp
 obtain ⟨nt, -⟩:=wB.1 ht
 have hr:=Wj (t:=t) hi
 have hall : ∀ n,n ∈ qm t ++ (qm p).drop (qm f).length → ql n = true:=fun n hm=>by
  rcases List.mem_append.1 hm with hm|hm
  ·exact nt n hm
  ·exact np n (List.mem_of_mem_drop hm)
 have hnm:qm (t ++ p.drop f.length) = qm t ++ (qm p).drop (qm f).length:=by
  rw [← hr]
  exact YG (by simp [vi]) fun n hm=>qaV (hall n hm)
 have hm:qM (t ++ p.drop f.length) = 0:=wB.2 ⟨by rw [hnm];exact hall,by simpa using hg⟩
 have hb:inB (t ++ p.drop f.length) t = true:=by
  rw [V0,hnm,List.isPrefixOf_iff_prefix];exact List.prefix_append ..
 have hpre:f ++ p.drop f.length = p:=by
  simp only [inB,Bool.or_eq_true,decide_eq_true_eq,List.isPrefixOf_iff_prefix] at hi
  rcases hi with rfl|⟨s,rfl⟩
  ·simp
  ·rw [List.append_assoc,List.drop_left]
 have hback:f ++ (t ++ p.drop f.length).drop t.length = p:=by rw [List.drop_left];exact hpre
 refine ⟨?_,?_,hb,hback⟩
 ·unfold zj
  rw [if_pos (xF.2 ⟨hm,xF.2 ⟨ht,xF.2 ⟨hf,rfl⟩⟩⟩),if_pos hb,hback,gp];rfl
 ·exact xF.2 ⟨hm,xF.2 ⟨ht,rfl⟩⟩
end Go.Proofs.YtiljlcgmcmjcoaaGreatDoor
