import Derived.Test.YtiljlcgmcmjcoaaGreatDoorMz7
set_option linter.unusedSimpArgs false
set_option maxHeartbeats 1000000
namespace Go.Proofs.YtiljlcgmcmjcoaaGreatDoor
open Go.Ab Go.RowKit
set_option maxRecDepth 10000
attribute [local irreducible] Awp ye ji qQ Red qF Go.Ab.Fin qo Rz xx qG qO ResOk jK je jX qW
def zeroSess:Sess:=⟨0,[],[],0,0⟩
def Zx (p:Sess → Bool) (l:List Sess):List Sess:=l.filter (fun s => !p s) ++ List.replicate (l.length - (l.filter (fun s => !p s)).length) zeroSess
theorem qcJ (p:Sess → Bool) (g:FuncId) (hg:IsFn C.P g) (cap:List AV) (hcap:AV.pure.pureL cap = true) (l:List Sess) (hl:l.length ≤ 1000000) (hc : ∀ s,s ∈ l → jO C.P g (.agg s.row :: cap) (.v (.bool (p s)))) :
  qo C1.P 177 [.os 0 0 l.length,.clo (.func g) [] cap] [.own false 5 (l.map Sess.row)] (.os 0 0 (l.filter (fun s => !p s)).length) [.own false 5 ((Zx p l).map Sess.row)]:=by
 refine qa (C:=C1) Tryz.func177 rfl _ Tryz.ntmps177 (Nat.le_of_ble_eq_true rfl) _ Tryz.results177 1 rfl rfl ?_
 have hidx:=XW p g hg cap hcap l hl hc
 rcases xZ p l with ⟨h1,h2⟩|⟨k,hk,h1,h2,h3⟩
 ·rw [h1] at hidx
  repeat' (first|refine qe ?_|(first|(apply qj;apply yy [0];exact jP Tryz.func155 rfl rfl;exact hidx;(case hz=>exact qk (yn rfl (by simp) (jq fun _=>rfl)) (qk (x8 hcap) qL));(case hfl=>rfl);(case hN=>exact nle rfl)))|((first|refine qb ?_ ?_|refine qc ?_ ?_|refine xsC ?_ ?_);all_goals (intro hc;have hp:=hc;try simp at hp;try (exfalso;omega)))|refine qp ?_ ?_)
  rw [show l.filter (fun s => !p s) = l from List.filter_eq_self.2 (fun s hs=>by simp [h2 s hs])]
  (refine Jf (rs:=[.tmp 4]) [] 1 ?_;(repeat (first|exact qf|refine jV ?_|refine qH ?_ ?_));all_goals (apply qih;simp [Zx,show l.filter (fun s => !p s) = l from List.filter_eq_self.2 (fun s hs=>by simp [h2 s hs])]))
 ·rw [h1] at hidx
  repeat' (first|refine qe ?_|(first|(apply qj;apply yy [0];exact jP Tryz.func155 rfl rfl;exact hidx;(case hz=>exact qk (yn rfl (by simp) (jq fun _=>rfl)) (qk (x8 hcap) qL));(case hfl=>rfl);(case hN=>exact nle rfl)))|((first|refine qb ?_ ?_|refine qc ?_ ?_|refine xsC ?_ ?_);all_goals (intro hc;have hp:=hc;try simp at hp;try (exfalso;omega)))|refine qp ?_ ?_)
  all_goals try (exfalso;omega)
  (refine Awp.red (qY (τ:=⟨[(0,.os 0 0 l.length),(1,.clo (.func g) [] cap),(5,.v (.int .i64 (k:Int))),(6,.v (.int .i64 ((k + 1:Nat):Int)))],[(0,.own false 5 (l.map Sess.row))],1⟩) [] rfl ?gts ?ghs) ?gmain;(case gts=>(repeat (first|exact qd|refine qi ?_|refine xd ?_|refine xL ?_|refine qI ?_ ?_)));(case ghs=>(repeat (first|exact qf|refine jV ?_|refine qH ?_ ?_))))
  refine qq (fun n σ => ∃ (j q:Nat) (R:List Sess),Del (fun s => !p s) l q j R ∧ n = l.length - j ∧ σ = ⟨[(0,.os 0 0 l.length),(1,.clo (.func g) [] cap),(5,.v (.int .i64 (q:Int))),(6,.v (.int .i64 (j:Int)))],[(0,.own false 5 (R.map Sess.row))],1⟩) (l.length - (k + 1)) ⟨k + 1,k,l,Del.start hk (List.all_eq_true.2 (fun s hs=>by simp [h2 s hs])) (by simp [h3]),rfl,rfl⟩ ?_
  rintro n σ ⟨j,q,R,hD,rfl,rfl⟩
  have hlen:=hD.len
  have hle:=hD.le
  have hjn:=hD.jn
  by_cases hlt:j < l.length
  ·have hcj:=hc l[j] (List.getElem_mem _)
   have hRj:=hD.at hlt
   have hr:=qx (f:=Sess.row) (l:=R) (i:=j) (by omega)
   rw [hRj] at hr
   have hr2:=qx (f:=Sess.row) (l:=R) (i:=q) (by omega)
   repeat' (first|refine qe ?_|(first|(refine vV ?_)|(apply qj;apply kt [];rfl;exact hg;exact hcj;(case hz=>exact qk (qB rfl) (wk hcap));(case hfl=>rfl);(case hN=>exact nle rfl)))|((first|refine qb ?_ ?_|refine qc ?_ ?_|refine xsC ?_ ?_);all_goals (intro hc;have hp:=hc;try simp at hp;try (exfalso;omega)))|refine qp ?_ ?_)
   all_goals try (exfalso;omega)
   ·refine ⟨l.length - (j + 1),_,by omega,qY (τ:=⟨[(0,.os 0 0 l.length),(1,.clo (.func g) [] cap),(5,.v (.int .i64 ((q + 1:Nat):Int))),(6,.v (.int .i64 ((j + 1:Nat):Int)))],[(0,.own false 5 ((R.set q l[j]).map Sess.row))],1⟩) [] rfl ?gts ?ghs,j + 1,q + 1,R.set q l[j],hD.keep hlt (by simp [hp]),rfl,rfl⟩
    case gts=>(repeat (first|exact qd|refine qi ?_|refine xd ?_|refine xL ?_|refine qI ?_ ?_))
    case ghs =>
     (repeat (first|exact qf|refine jV ?_|refine qH ?_ ?_))
     rw [List.map_set];rfl
   ·refine ⟨l.length - (j + 1),_,by omega,qY (τ:=⟨[(0,.os 0 0 l.length),(1,.clo (.func g) [] cap),(5,.v (.int .i64 (q:Int))),(6,.v (.int .i64 ((j + 1:Nat):Int)))],[(0,.own false 5 (R.map Sess.row))],1⟩) [] rfl ?gts ?ghs,j + 1,q,R,hD.drop hlt (by simp [hp]),rfl,rfl⟩
    case gts=>(repeat (first|exact qd|refine qi ?_|refine xd ?_|refine xL ?_|refine qI ?_ ?_))
    case ghs=>(repeat (first|exact qf|refine jV ?_|refine qH ?_ ?_))
  have hRq:=hD.end_ hlt
  have hql:(l.filter (fun s => !p s)).length = q:=by rw [← hRq];simp;omega
  repeat' (first|refine qe ?_|(first|(refine Jm ?_)|(refine qdI ?_))|((first|refine qb ?_ ?_|refine qc ?_ ?_|refine xsC ?_ ?_);all_goals (intro hc;have hp:=hc;try simp at hp;try (exfalso;omega)))|refine qp ?_ ?_)
  all_goals try (exfalso;omega)
  rw [hql]
  (refine Jf (rs:=[.tmp 4]) [] 1 ?_;(repeat (first|exact qf|refine jV ?_|refine qH ?_ ?_));all_goals (rw [Nat.zero_add,List.drop_eq_nil_of_le (by simp;omega),List.append_nil, ← List.map_take,hRq,Zx,hql,List.map_append,List.map_replicate];rfl))
theorem qgX (s:Sess) (now:Int):jO C.P 178 [.agg s.row,.fp [[.v (.int .i64 now)]] 0 0] (.v (.bool (!zz now s))):=by
 refine qa Tryz.func178 rfl _ Tryz.ntmps178 (Nat.le_of_ble_eq_true rfl) _ Tryz.results178 0 rfl rfl ?_
 repeat' (first|refine qe ?_|fail|((first|refine xsC ?_ ?_);all_goals (intro hc;have hp:=hc;try simp at hp;try (exfalso;omega)))|refine qp ?_ ?_)
 all_goals (apply jd;rfl;rw [Bool.eq_iff_iff];simp [zz])
def yQ (l:List Sess) (now:Int):List Sess:=qz l now ++ List.replicate (l.length - (qz l now).length) zeroSess
theorem Wo (l:List Sess) (now:Int):Zx (fun s => !zz now s) l = yQ l now:=by simp [Zx,yQ,qz]
theorem WM (l:List Sess) (now:Int):l.filter (fun s => !(fun s => !zz now s) s) = qz l now:=by simp [qz]
theorem qhv (u:Upl) (now:Int) (hl:u.sess.length ≤ 1000000) :
  qo C.P 154 [xw u,.v (.int .i64 now)] [] (.agg [.os 0 0 (qz u.sess now).length,.v (.int .i64 u.next),.v (.int .i64 u.lasts),.v (.int .i64 u.room)]) [.own false 5 ((yQ u.sess now).map Sess.row)]:=by
 have hdel:=qcJ (fun s => !zz now s) 178 (jP Tryz.func178 rfl rfl) [.fp [[.v (.int .i64 now)]] 0 0] rfl u.sess hl (fun s _=>qgX s now)
 rw [Wo,WM] at hdel
 refine qa Tryz.func154 rfl _ Tryz.ntmps154 (Nat.le_of_ble_eq_true rfl) _ Tryz.results154 0 rfl rfl ?_
 (repeat apply jg);apply qw;(repeat' (first|apply qT|refine xl ?_|refine xN ?_|refine vZ ?_|refine xX ?_|refine xn ?_|refine yG ?_|(first|fail)|refine yg ?_));show Awp _ _ _ _ _
 refine xV 3 1 ?_
 repeat' (first|refine qe ?_|(first|(apply qN Tryz.func80 rfl rfl;intro hIsFn;refine yr ([]) hIsFn (qbr u.sess hl ..) ?_)|(apply qN Tryz.func177 rfl rfl;intro hIsFn;refine Qm ([3]) 3 hIsFn (hdel ..) ?_))|((first|refine xsC ?_ ?_);all_goals (intro hc;have hp:=hc;try simp at hp;try (exfalso;omega)))|refine qp ?_ ?_)
 (refine Jf (rs:=[.cell 4 26]) [(3,0)] 1 ?_;(repeat (first|exact qf|refine jV ?_|refine qH ?_ ?_));all_goals trace_state)
end Go.Proofs.YtiljlcgmcmjcoaaGreatDoor
set_option linter.unusedSimpArgs false
set_option maxHeartbeats 1000000
namespace Go.Proofs.YtiljlcgmcmjcoaaGreatDoor
open Go.Ab Go.RowKit
set_option maxRecDepth 10000
attribute [local irreducible] Awp ye ji qQ Red qF Go.Ab.Fin qo Rz xx qG qO ResOk jK je jX qW
def qdA (u:Upl) (now:Int) (n:Nat):AV := .agg [.os n 0 (qz u.sess now).length,.v (.int .i64 u.next),.v (.int .i64 u.lasts),.v (.int .i64 u.room)]
theorem VE (u:Upl) (hu:UBig u) (now:Int) (he:js u now ≠ 0):jO C.P 125 [xw u,.v (.int .i64 now)] (.tup [xw Ju,.v (.int .i64 (js u now))]):=by
 refine qa Tryz.func125 rfl _ Tryz.ntmps125 (Nat.le_of_ble_eq_true rfl) _ Tryz.results125 0 rfl rfl ?_
 repeat' (first|refine qe ?_|(first|refine xsF Tryz.func31 (VZ u hu ..) ?_|refine xsF Tryz.func68 (Qb ..) ?_)|((first|refine qb ?_ ?_|refine qc ?_ ?_|refine xsC ?_ ?_);all_goals (intro hc;have hp:=hc;try simp at hp;try (exfalso;omega)))|refine qp ?_ ?_)
 ·have h1:js u now = yM u:=by simp_all [js]
  rw [h1]
  (exact j1 (rs:=[.cell 4 26,.tmp 5]))
 ·have h1:js u now = 3:=by simp_all [js]
  rw [h1]
  (exact j1 (rs:=[.cell 4 26,.tmp 5]))
 ·exfalso;simp_all [js]
theorem YA (u:Upl) (hu:UBig u) (now:Int) (he:js u now = 0):qo C.P 125 [xw u,.v (.int .i64 now)] [] (.tup [qdA u now 0,.v (.int .i64 0)]) [.own false 5 ((yQ u.sess now).map Sess.row)]:=by
 have hl6:u.sess.length ≤ 1000000:=by have:=(uok he).len;omega
 have h0:=(YO he).1
 refine qa Tryz.func125 rfl _ Tryz.ntmps125 (Nat.le_of_ble_eq_true rfl) _ Tryz.results125 0 rfl rfl ?_
 repeat' (first|refine qe ?_|(first|refine xsF Tryz.func31 (VZ u hu ..) ?_|refine xsF Tryz.func68 (Qb ..) ?_|(apply qN Tryz.func154 rfl rfl;intro hIsFn;refine yr ([]) hIsFn (qhv u now hl6 ..) ?_))|((first|refine qb ?_ ?_|refine qc ?_ ?_|refine xsC ?_ ?_);all_goals (intro hc;have hp:=hc;try simp at hp;try (exfalso;omega)))|refine qp ?_ ?_)
 all_goals try (exfalso;simp_all [js];done)
 (refine Jf (rs:=[.cell 4 26,.tmp 5]) [(2,0)] 1 ?_;(repeat (first|exact qf|refine jV ?_|refine qH ?_ ?_));all_goals trace_state)
theorem zM (l:List Sess) (now:Int):((yQ l now).map Sess.row).take (qz l now).length = (qz l now).map Sess.row:=by
 unfold yQ
 rw [List.map_append,List.take_append_of_le_length (by simp),wG]
theorem kz (l:List Sess) (now:Int):(qz l now).length ≤ (yQ l now).length:=by simp [yQ]
theorem Xj {h:Nat → HB} {n:Nat} {l:List Sess} {now:Int} (hn:h n = .own false 5 ((yQ l now).map Sess.row)):Rz h (.os n 0 (qz l now).length) (.sl false ((qz l now).map Sess.row)):=by
 refine Yo hn (by simpa using kz l now) ?_
 rw [List.drop_zero,zM]
 exact zT fun _=>rfl
theorem qeV {a b c:Int} (h:qA a b c = true):b ≤ a ∧ a ≤ c:=by simpa [qA] using h
theorem qeO {u:Upl} {who:qC} {size now:Int} (hb0:js u now = 0) (h:ql who = false):yE u who size now = 1:=by simp [yE,hb0,h]
theorem qcb {u:Upl} {who:qC} {size now:Int} (hb0:js u now = 0) (hnm:ql who = true) (h:qA size 0 300 = false):yE u who size now = 3:=by
 have hor:size < 0 ∨ 300 < size ∨ u.next = 1099511627776:=by simp [qA] at h;omega
 simp only [yE,hb0,hnm,hor,if_true]
theorem qdi {u:Upl} {who:qC} {size now:Int} (hb0:js u now = 0) (hnm:ql who = true) (h:u.next = 1099511627776):yE u who size now = 3:=by
 have hor:size < 0 ∨ 300 < size ∨ u.next = 1099511627776 := .inr (.inr h)
 simp only [yE,hb0,hnm,hor,if_true]
theorem X9 {u:Upl} {who:qC} {size now:Int} (hb0:js u now = 0) (hnm:ql who = true) (hwi:qA size 0 300 = true) (hnx:¬ u.next = 1099511627776):yE u who size now = if (qz u.sess now).length = 20 then 2 else if u.room < j9 (qz u.sess now) who + size then 10 else 0:=by
 have hor:¬ (size < 0 ∨ 300 < size ∨ u.next = 1099511627776):=by simp [qA] at hwi;omega
 simp only [yE,hb0,hnm,hor,if_true,if_false]
theorem qen {u:Upl} {who:qC} {size now:Int} (hb0:js u now = 0) (hnm:ql who = true) (hwi:qA size 0 300 = true) (hnx:¬ u.next = 1099511627776) (h:((qz u.sess now).length:Int) = 20):yE u who size now = 2:=by
 rw [X9 hb0 hnm hwi hnx,if_pos (by omega)]
theorem qcK {u:Upl} {who:qC} {size now:Int} (hb0:js u now = 0) (hnm:ql who = true) (hwi:qA size 0 300 = true) (hnx:¬ u.next = 1099511627776) (h:¬ ((qz u.sess now).length:Int) = 20) (h' : u.room < j9 (qz u.sess now) who + size):yE u who size now = 10:=by
 rw [X9 hb0 hnm hwi hnx,if_neg (by omega),if_pos h']
theorem qff {u:Upl} {who:qC} {size now:Int} (hb0:js u now = 0) (hnm:ql who = true) (hwi:qA size 0 300 = true) (hnx:¬ u.next = 1099511627776) (h:¬ ((qz u.sess now).length:Int) = 20) (h' : j9 (qz u.sess now) who + size ≤ u.room):yE u who size now = 0:=by
 rw [X9 hb0 hnm hwi hnx,if_neg (by omega),if_neg (by omega)]
theorem qgS (u:Upl) (hu:UBig u) (who:qC) (hw:who.length ≤ 9223372036854775807) (size now:Int) :
  jO C.P 86 [xw u,.v (str who),.v (.int .i64 size),.v (.int .i64 now)] (Jy u who size now):=by
 by_cases hb0:js u now = 0
 ·have ok:=uok hb0
  have hss : ∀ s,s ∈ qz u.sess now → 0 ≤ s.size ∧ s.size ≤ 300:=fun s hs=>ok.sz s (kL hs)
  have hsl:(qz u.sess now).length ≤ 20:=Nat.le_trans (vE _ _) ok.len
  have hsr:=kz u.sess now
  have hob:=X8 who hss
  obtain ⟨n0,n1,l0,l1,r0,r1,x0,x1,_,_⟩:=ok
  refine qa Tryz.func86 rfl _ Tryz.ntmps86 (Nat.le_of_ble_eq_true rfl) _ Tryz.results86 0 rfl rfl ?_
  repeat' (first|refine qe ?_|(first|(apply qN Tryz.func125 rfl rfl;intro hIsFn;refine yr ([]) hIsFn (YA u hu now hb0 ..) ?_)|refine xsF Tryz.func37 (Xd _ hw ..) ?_|refine xsF Tryz.func68 (Qb ..) ?_|(apply qj;apply yy [2];exact jP Tryz.func70 rfl rfl;apply qga (qz u.sess now) who hss (by omega);(case hz=>exact qk (Xj rfl) (qk (qB rfl) qL));(case hfl=>rfl);(case hN=>exact nle rfl))|(refine jN ?_)|(refine yX ?_)|(refine (fun (hsz:0 ≤ size ∧ size ≤ 300)=>?_) (qeV ?_);rotate_left;assumption;apply qj;apply ZH;rfl;rfl;omega;omega;exact nle rfl))|((first|refine qb ?_ ?_|refine qc ?_ ?_|refine xsC ?_ ?_);all_goals (intro hc;have hp:=hc;try simp at hp;try (exfalso;omega)))|refine qp ?_ ?_)
  all_goals try (exfalso;simp_all;done)
  all_goals first
   | (refine zx (vj (qeO hb0 ?_) ?_) ?_;assumption;decide;(exact j1 (rs:=[.cell 8 26,.tmp 9,.tmp 10])))
   | (refine zx (vj (qcb hb0 ?_ ?_) ?_) ?_;assumption;assumption;decide;(exact j1 (rs:=[.cell 8 26,.tmp 9,.tmp 10])))
   | (refine zx (vj (qdi hb0 ?_ ?_) ?_) ?_;assumption;assumption;decide;(exact j1 (rs:=[.cell 8 26,.tmp 9,.tmp 10])))
   | (refine zx (vj (qen hb0 ?_ ?_ ?_ ?_) ?_) ?_;assumption;assumption;assumption;assumption;decide;(exact j1 (rs:=[.cell 8 26,.tmp 9,.tmp 10])))
   | (refine zx (vj (qcK hb0 ?_ ?_ ?_ ?_ ?_) ?_) ?_;assumption;assumption;assumption;assumption;assumption;decide;(exact j1 (rs:=[.cell 8 26,.tmp 9,.tmp 10])))
   | skip
  refine zx (K5 (qff hb0 ?_ ?_ ?_ ?_ ?_)) ?_
  iterate 5 first|assumption|omega
  (refine yu (rs:=[.cell 8 26,.tmp 9,.tmp 10]) ?_;(repeat' (first|exact qL|apply qk|exact qB rfl|exact yi|exact vS|apply jT|apply yl|apply jQ|apply yo|apply jY|apply yq|refine vY ?_|apply y0));all_goals (rw [zM,show (Ym u who size now).sess = qz u.sess now ++ [⟨u.next,who,[],size,now + u.lasts⟩] from rfl,List.map_append];rfl))
 ·refine qa Tryz.func86 rfl _ Tryz.ntmps86 (Nat.le_of_ble_eq_true rfl) _ Tryz.results86 0 rfl rfl ?_
  repeat' (first|refine qe ?_|(first|refine xsQ Tryz.func125 (VE u hu now hb0 ..) ?_)|((first|refine qb ?_ ?_|refine qc ?_ ?_|refine xsC ?_ ?_);all_goals (intro hc;have hp:=hc;try simp at hp;try (exfalso;omega)))|refine qp ?_ ?_)
  all_goals try (exfalso;simp_all;done)
  rw [vj (e:=js u now) (by simp [yE,hb0]) hb0]
  (exact j1 (rs:=[.cell 8 26,.tmp 9,.tmp 10]))
end Go.Proofs.YtiljlcgmcmjcoaaGreatDoor
set_option linter.unusedSimpArgs false
set_option maxHeartbeats 1000000
namespace Go.Proofs.YtiljlcgmcmjcoaaGreatDoor
open Go.Ab Go.RowKit
set_option maxRecDepth 10000
attribute [local irreducible] Awp ye ji qQ Red qF Go.Ab.Fin qo Rz xx qG qO ResOk jK je jX qW
def jA (u:Upl) (who:qC) (number now:Int):Int :=
 if js u now = 0 then
  if ql who then
   if j0 (xD who number) (qz u.sess now) < 0 then 5 else 0
  else 1
 else js u now
theorem qdt (s:Sess) (who:qC) (number:Int):jO C.P 156 [.agg s.row,.fp [[.v (.int .i64 number)]] 0 0,.fp [[.v (str who)]] 0 0] (.v (.bool (xD who number s))):=by
 refine qa Tryz.func156 rfl _ Tryz.ntmps156 (Nat.le_of_ble_eq_true rfl) _ Tryz.results156 0 rfl rfl ?_
 repeat' (first|refine qe ?_|fail|((first|refine qb ?_ ?_|refine qc ?_ ?_|refine xsC ?_ ?_);all_goals (intro hc;have hp:=hc;try simp at hp;try (exfalso;omega)))|refine qp ?_ ?_)
 all_goals (apply jd;rfl;simp_all [xD])
theorem YE (u:Upl) (hu:UBig u) (who:qC) (hw:who.length ≤ 9223372036854775807) (number now:Int) (he:jA u who number now ≠ 0) :
  jO C.P 126 [xw u,.v (str who),.v (.int .i64 number),.v (.int .i64 now)] (kZ Ju 0 (jA u who number now)):=by
 by_cases hb0:js u now = 0
 ·have ok:=uok hb0
  have hl6:(qz u.sess now).length ≤ 1000000:=by have:=vE u.sess now;have:=ok.len;omega
  have hidx:=XW (xD who number) 156 (jP Tryz.func156 rfl rfl) [.fp [[.v (.int .i64 number)]] 0 0,.fp [[.v (str who)]] 0 0] rfl (qz u.sess now) hl6 (fun s _=>qdt s who number)
  refine qa Tryz.func126 rfl _ Tryz.ntmps126 (Nat.le_of_ble_eq_true rfl) _ Tryz.results126 0 rfl rfl ?_
  (repeat apply jg);apply qw;(repeat' (first|apply qT|refine xi ?_|refine xe ?_|refine xl ?_|refine xN ?_|refine xj ?_|refine vm ?_|refine xb ?_|refine vb ?_|refine qiP ?_|refine vl ?_|refine zb ?_|refine qiw ?_|refine vZ ?_|refine Vn ?_|refine vX ?_|refine xX ?_|refine xn ?_|refine yG ?_|(first|fail)|refine yg ?_|refine j6 ?_|refine j4 ?_|refine jF ?_|refine jG ?_|refine yL ?_|refine yK ?_|refine j7 ?_|refine j8 ?_|((first|refine qb ?_ ?_|refine qc ?_ ?_);all_goals (intro hc;have hp:=hc;try simp at hp;try (exfalso;omega)))));show Awp _ _ _ _ _
  refine xV 5 1 ?_
  refine xV 6 2 ?_
  repeat' (first|refine qe ?_|(first|(apply qN Tryz.func125 rfl rfl;intro hIsFn;refine yr ([]) hIsFn (YA u hu now hb0 ..) ?_)|refine xsF Tryz.func37 (Xd _ hw ..) ?_|(apply qj;apply yy [4];exact jP Tryz.func155 rfl rfl;exact hidx;(case hz=>exact qk (Xj rfl) (qk (x8 rfl) qL));(case hfl=>rfl);(case hN=>exact nle rfl)))|((first|refine qb ?_ ?_|refine qc ?_ ?_|refine xsC ?_ ?_);all_goals (intro hc;have hp:=hc;try simp at hp;try (exfalso;omega)))|refine qp ?_ ?_)
  all_goals try (exfalso;simp_all;done)
  ·have h1:jA u who number now = 1:=by simp [jA,hb0,hp]
   rw [h1]
   (exact j1 (rs:=[.cell 8 26,.tmp 9,.tmp 10]))
  ·have hnm:ql who = true:=by assumption
   have h1:jA u who number now = 5:=by simp [jA,hb0,hnm,hp]
   rw [h1]
   (exact j1 (rs:=[.cell 8 26,.tmp 9,.tmp 10]))
  ·exfalso
   have hnm:ql who = true:=by assumption
   have:¬ j0 (xD who number) (qz u.sess now) < 0:=by omega
   exact he (by simp [jA,hb0,hnm,this])
 ·refine qa Tryz.func126 rfl _ Tryz.ntmps126 (Nat.le_of_ble_eq_true rfl) _ Tryz.results126 0 rfl rfl ?_
  repeat' (first|refine qe ?_|(first|refine xsQ Tryz.func125 (VE u hu now hb0 ..) ?_)|((first|refine qb ?_ ?_|refine qc ?_ ?_|refine xsC ?_ ?_);all_goals (intro hc;have hp:=hc;try simp at hp;try (exfalso;omega)))|refine qp ?_ ?_)
  all_goals try (exfalso;simp_all;done)
  rw [show jA u who number now = js u now from by simp [jA,hb0]]
  (exact j1 (rs:=[.cell 8 26,.tmp 9,.tmp 10]))
theorem JY (u:Upl) (hu:UBig u) (who:qC) (hw:who.length ≤ 9223372036854775807) (number now:Int) (hb0:js u now = 0) (hnm:ql who = true) (k:Nat) (hk:j0 (xD who number) (qz u.sess now) = k) :
  qo C.P 126 [xw u,.v (str who),.v (.int .i64 number),.v (.int .i64 now)] [] (.tup [qdA u now 0,.v (.int .i64 k),.v (.int .i64 0)]) [.own false 5 ((yQ u.sess now).map Sess.row)]:=by
 have ok:=uok hb0
 have hl6:(qz u.sess now).length ≤ 1000000:=by have:=vE u.sess now;have:=ok.len;omega
 have hidx:=XW (xD who number) 156 (jP Tryz.func156 rfl rfl) [.fp [[.v (.int .i64 number)]] 0 0,.fp [[.v (str who)]] 0 0] rfl (qz u.sess now) hl6 (fun s _=>qdt s who number)
 rw [hk] at hidx
 refine qa Tryz.func126 rfl _ Tryz.ntmps126 (Nat.le_of_ble_eq_true rfl) _ Tryz.results126 0 rfl rfl ?_
 (repeat apply jg);apply qw;(repeat' (first|apply qT|refine xi ?_|refine xe ?_|refine xl ?_|refine xN ?_|refine xj ?_|refine vm ?_|refine xb ?_|refine vb ?_|refine qiP ?_|refine vl ?_|refine zb ?_|refine qiw ?_|refine vZ ?_|refine Vn ?_|refine vX ?_|refine xX ?_|refine xn ?_|refine yG ?_|(first|fail)|refine yg ?_|refine j6 ?_|refine j4 ?_|refine jF ?_|refine jG ?_|refine yL ?_|refine yK ?_|refine j7 ?_|refine j8 ?_|((first|refine qb ?_ ?_|refine qc ?_ ?_);all_goals (intro hc;have hp:=hc;try simp at hp;try (exfalso;omega)))));show Awp _ _ _ _ _
 refine xV 5 1 ?_
 refine xV 6 2 ?_
 repeat' (first|refine qe ?_|(first|(apply qN Tryz.func125 rfl rfl;intro hIsFn;refine yr ([]) hIsFn (YA u hu now hb0 ..) ?_)|refine xsF Tryz.func37 (Xd _ hw ..) ?_|(apply qj;apply yy [4];exact jP Tryz.func155 rfl rfl;exact hidx;(case hz=>exact qk (Xj rfl) (qk (x8 rfl) qL));(case hfl=>rfl);(case hN=>exact nle rfl)))|((first|refine qb ?_ ?_|refine qc ?_ ?_|refine xsC ?_ ?_);all_goals (intro hc;have hp:=hc;try simp at hp;try (exfalso;omega)))|refine qp ?_ ?_)
 all_goals try (exfalso;simp_all;done)
 all_goals try (exfalso;omega)
 (refine Jf (rs:=[.cell 8 26,.tmp 9,.tmp 10]) [(4,0)] 1 ?_;(repeat (first|exact qf|refine jV ?_|refine qH ?_ ?_));all_goals trace_state)
end Go.Proofs.YtiljlcgmcmjcoaaGreatDoor
set_option linter.unusedSimpArgs false
set_option maxHeartbeats 1000000
namespace Go.Proofs.YtiljlcgmcmjcoaaGreatDoor
open Go.Ab Go.RowKit
set_option maxRecDepth 10000
attribute [local irreducible] Awp ye ji qQ Red qF Go.Ab.Fin qo Rz xx qG qO ResOk jK je jX qW
theorem JT {l:List Sess} {now:Int} {k:Nat} {s:Sess} (h:(qz l now)[k]? = some s):((yQ l now).map Sess.row)[k]? = some s.row:=by
 unfold yQ
 rw [List.map_append,List.getElem?_append_left (by have:=(List.getElem?_eq_some_iff.1 h).1;simpa using this),List.getElem?_map,h];rfl
theorem qa2 (u:Upl) (hu:UBig u) (who:qC) (hw:who.length ≤ 9223372036854775807) (number now:Int) (he:jA u who number now ≠ 0) :
  jO C.P 88 [xw u,.v (str who),.v (.int .i64 number),.v (.int .i64 now)] (.tup [.v (.int .i64 0),.v (.int .i64 (jA u who number now))]):=by
 refine qa Tryz.func88 rfl _ Tryz.ntmps88 (Nat.le_of_ble_eq_true rfl) _ Tryz.results88 0 rfl rfl ?_
 repeat' (first|refine qe ?_|(first|refine xsQ Tryz.func126 (YE u hu who hw number now he ..) ?_)|((first|refine qb ?_ ?_|refine qc ?_ ?_|refine xsC ?_ ?_);all_goals (intro hc;have hp:=hc;try simp at hp;try (exfalso;omega)))|refine qp ?_ ?_)
 all_goals try (exfalso;simp_all;done)
 (exact j1 (rs:=[.tmp 8,.tmp 9]))
theorem qcY (u:Upl) (hu:UBig u) (who:qC) (hw:who.length ≤ 9223372036854775807) (number now:Int) (hb0:js u now = 0) (hnm:ql who = true) (k:Nat) (hk:j0 (xD who number) (qz u.sess now) = k) (s:Sess) (hs:(qz u.sess now)[k]? = some s) (_hst:s.text.length ≤ 9223372036854775807) :
  jO C.P 88 [xw u,.v (str who),.v (.int .i64 number),.v (.int .i64 now)] (.tup [.v (.int .i64 s.text.length),.v (.int .i64 0)]):=by
 have hkl:k < (qz u.sess now).length:=(List.getElem?_eq_some_iff.1 hs).1
 have hr:=JT hs
 refine qa Tryz.func88 rfl _ Tryz.ntmps88 (Nat.le_of_ble_eq_true rfl) _ Tryz.results88 0 rfl rfl ?_
 repeat' (first|refine qe ?_|(first|(apply qN Tryz.func126 rfl rfl;intro hIsFn;refine yr ([]) hIsFn (JY u hu who hw number now hb0 hnm k hk ..) ?_)|(refine vV ?_))|((first|refine qb ?_ ?_|refine qc ?_ ?_|refine xsC ?_ ?_);all_goals (intro hc;have hp:=hc;try simp at hp;try (exfalso;omega)))|refine qp ?_ ?_)
 all_goals try (exfalso;simp_all;done)
 (exact j1 (rs:=[.tmp 8,.tmp 9]))
def vW (t:qC) (offset:Int) (x:qC):Bool:=qA offset 0 t.length && decide (t.drop offset.toNat = x)
def QS (s:Sess) (offset:Int) (text:qC):Int:=if vW s.text offset text then 0 else if offset = s.text.length then (if s.size < s.text.length + text.length then 2 else 0) else 4
def Yl (s:Sess) (offset:Int) (text:qC) (till:Int):Sess:=if vW s.text offset text then s else { s with text:=s.text ++ text,till:=till }
def VF (u:Upl) (k:Nat) (s:Sess) (offset:Int) (text:qC) (now:Int):AV :=
 if QS s offset text = 0 then kZ { u with sess:=(qz u.sess now).set k (Yl s offset text (now + u.lasts)) } (Yl s offset text (now + u.lasts)).text.length 0 else kZ Ju 0 (QS s offset text)
theorem XR {u:Upl} {k:Nat} {s:Sess} {offset:Int} {text:qC} {now e:Int} (h:QS s offset text = e) (h0:e ≠ 0):VF u k s offset text now = kZ Ju 0 e:=by unfold VF;rw [h,if_neg h0]
theorem qbZ {u:Upl} {k:Nat} {s:Sess} {offset:Int} {text:qC} {now:Int} (h:vW s.text offset text = true) (hs:(qz u.sess now)[k]? = some s):VF u k s offset text now = kZ (yD u now) s.text.length 0:=by
 unfold VF QS Yl
 simp only [h,if_true]
 obtain ⟨hk,e⟩:=List.getElem?_eq_some_iff.1 hs
 rw [← e,List.set_getElem_self];rfl
theorem qex {u:Upl} {k:Nat} {s:Sess} {offset:Int} {text:qC} {now:Int} (h:vW s.text offset text = false) (h1:offset = s.text.length) (h2:¬ s.size < s.text.length + text.length) :
  VF u k s offset text now = kZ { u with sess:=(qz u.sess now).set k { s with text:=s.text ++ text,till:=now + u.lasts } } (s.text ++ text).length 0:=by
 have he:QS s offset text = 0:=by unfold QS;rw [h,if_neg (by simp),if_pos h1,if_neg h2]
 unfold VF
 rw [if_pos he]
 unfold Yl
 rw [h,if_neg (by simp)]
theorem qcP {s:Sess} {offset:Int} {text:qC} (h:vW s.text offset text = false) (h1:¬ offset = s.text.length):QS s offset text = 4:=by unfold QS;rw [h,if_neg (by simp),if_neg h1]
theorem qgi {s:Sess} {offset:Int} {text:qC} (h:vW s.text offset text = false) (h1:offset = s.text.length) (h2:(s.size < s.text.length + text.length)):QS s offset text = 2:=by unfold QS;rw [h,if_neg (by simp),if_pos h1,if_pos h2]
theorem qah {h:Nat → HB} {n k:Nat} {l:List Sess} {now:Int} {s:Sess} {row:List AV} (hn:h n = .own false 5 (((yQ l now).map Sess.row).set k row)) (hrow:row = s.row):Rz h (.os n 0 (qz l now).length) (.sl false (((qz l now).set k s).map Sess.row)):=by
 subst hrow
 have hlen:=kz l now
 refine Yo hn (by simpa using hlen) ?_
 rw [List.drop_zero,List.take_set,zM, ← List.map_set]
 exact zT fun _=>rfl
theorem Kt {h:Nat → HB} {n k:Nat} {l:List Sess} {now:Int} {s:Sess} {row0 row:List AV} (hn:h n = .own false 5 ((((yQ l now).map Sess.row).set k row0).set k row)) (hrow:row = s.row):Rz h (.os n 0 (qz l now).length) (.sl false (((qz l now).set k s).map Sess.row)):=by
 rw [List.set_set] at hn
 exact qah hn hrow
theorem qbu (u:Upl) (hu:UBig u) (who:qC) (hw:who.length ≤ 9223372036854775807) (number now:Int) (hb0:js u now = 0) (hnm:ql who = true) (k:Nat) (hk:j0 (xD who number) (qz u.sess now) = k) (s:Sess) (hs:(qz u.sess now)[k]? = some s) (hst:s.text.length ≤ 1000)
  (offset:Int) (text:qC) (htx:text.length ≤ 140737488355328) :
  jO C.P 87 [xw u,.v (str who),.v (.int .i64 number),.v (.int .i64 offset),.v (str text),.v (.int .i64 now)] (VF u k s offset text now):=by
 have ok:=uok hb0
 have hkl:k < (qz u.sess now).length:=(List.getElem?_eq_some_iff.1 hs).1
 have hr:=JT hs
 obtain ⟨n0,n1,l0,l1,r0,r1,x0,x1,_,_⟩:=ok
 by_cases hin:qA offset 0 s.text.length = true
 ·obtain ⟨n,rfl⟩ : ∃ n:Nat,offset = n:=⟨offset.toNat,by simp [qA] at hin;omega⟩
  have hnl:n ≤ s.text.length:=by simp [qA] at hin;omega
  have hag:vW s.text n text = decide ((s.text.take s.text.length).drop n = text):=by simp [vW,hin]
  refine qa Tryz.func87 rfl _ Tryz.ntmps87 (Nat.le_of_ble_eq_true rfl) _ Tryz.results87 0 rfl rfl ?_
  repeat' (first|refine qe ?_|(first|(apply qN Tryz.func126 rfl rfl;intro hIsFn;refine yr ([]) hIsFn (JY u hu who hw number now hb0 hnm k hk ..) ?_)|(refine vV ?_)|refine xsF Tryz.func68 (Qb ..) ?_|(refine Wn ?_))|((first|refine qb ?_ ?_|refine qc ?_ ?_|refine xsC ?_ ?_);all_goals (intro hc;have hp:=hc;try simp at hp;try (exfalso;omega)))|refine qp ?_ ?_)
  all_goals try (exfalso;simp_all;done)
  ·have ha:vW s.text n text = true:=hag.trans hc
   refine zx (qbZ ha hs) ?_
   (refine yu (rs:=[.cell 12 26,.tmp 13,.tmp 14]) ?_;(repeat' (first|(apply Xj;rfl)|exact qL|apply qk|exact qB rfl|exact yi|exact vS|apply jT|apply yl|apply jQ|apply yo|apply jY|apply yq|refine vY ?_|apply y0));all_goals trace_state)
  all_goals have ha:vW s.text n text = false:=hag.trans (by assumption)
  ·refine zx (XR (qcP ha hp) (by decide)) ?_
   (exact j1 (rs:=[.cell 12 26,.tmp 13,.tmp 14]))
  ·refine zx (XR (qgi ha (by assumption) hp) (by decide)) ?_
   (exact j1 (rs:=[.cell 12 26,.tmp 13,.tmp 14]))
  ·refine zx (qex ha (by assumption) (by omega)) ?_
   (refine yu (rs:=[.cell 12 26,.tmp 13,.tmp 14]) ?_;(repeat' (first|(apply Kt;(case hn=>rfl);(case hrow=>rfl))|exact qL|apply qk|exact qB rfl|exact yi|exact vS|apply jT|apply yl|apply jQ|apply yo|apply jY|apply yq|refine vY ?_|apply y0));all_goals trace_state)
 ·have hin:qA offset 0 s.text.length = false:=by simpa using hin
  have ha:vW s.text offset text = false:=by simp [vW,hin]
  refine qa Tryz.func87 rfl _ Tryz.ntmps87 (Nat.le_of_ble_eq_true rfl) _ Tryz.results87 0 rfl rfl ?_
  repeat' (first|refine qe ?_|(first|(apply qN Tryz.func126 rfl rfl;intro hIsFn;refine yr ([]) hIsFn (JY u hu who hw number now hb0 hnm k hk ..) ?_)|(refine vV ?_)|refine xsF Tryz.func68 (Qb ..) ?_)|((first|refine qb ?_ ?_|refine qc ?_ ?_|refine xsC ?_ ?_);all_goals (intro hc;have hp:=hc;try simp at hp;try (exfalso;omega)))|refine qp ?_ ?_)
  all_goals try (exfalso;simp_all;done)
  ·refine zx (XR (qcP ha hp) (by decide)) ?_
   (exact j1 (rs:=[.cell 12 26,.tmp 13,.tmp 14]))
  all_goals (exfalso;simp [qA] at hin;omega)
theorem W6 (u:Upl) (hu:UBig u) (who:qC) (hw:who.length ≤ 9223372036854775807) (number now:Int) (he:jA u who number now ≠ 0) (offset:Int) (text:qC) :
  jO C.P 87 [xw u,.v (str who),.v (.int .i64 number),.v (.int .i64 offset),.v (str text),.v (.int .i64 now)] (kZ Ju 0 (jA u who number now)):=by
 refine qa Tryz.func87 rfl _ Tryz.ntmps87 (Nat.le_of_ble_eq_true rfl) _ Tryz.results87 0 rfl rfl ?_
 repeat' (first|refine qe ?_|(first|refine xsQ Tryz.func126 (YE u hu who hw number now he ..) ?_)|((first|refine qb ?_ ?_|refine qc ?_ ?_|refine xsC ?_ ?_);all_goals (intro hc;have hp:=hc;try simp at hp;try (exfalso;omega)))|refine qp ?_ ?_)
 all_goals try (exfalso;simp_all;done)
 (exact j1 (rs:=[.cell 12 26,.tmp 13,.tmp 14]))
end Go.Proofs.YtiljlcgmcmjcoaaGreatDoor
set_option linter.unusedSimpArgs false
set_option maxHeartbeats 1000000
namespace Go.Proofs.YtiljlcgmcmjcoaaGreatDoor
open Go.Ab Go.RowKit
set_option maxRecDepth 10000
attribute [local irreducible] Awp ye ji qQ Red qF Go.Ab.Fin qo Rz xx qG qO ResOk jK je jX qW
theorem qg2 {α:Type} (rs:List α) (i n:Nat) (hi:i < n) (hn:n ≤ rs.length) (z:α) :
  (rs.take i ++ (rs.drop (i + 1)).take (n - (i + 1)) ++ rs.drop (i + (n - (i + 1)))).take (i + (n - (i + 1))) ++ List.replicate (n - (i + (n - (i + 1)))) z ++ (rs.take i ++ (rs.drop (i + 1)).take (n - (i + 1)) ++ rs.drop (i + (n - (i + 1)))).drop (i + (n - (i + 1)) + (n - (i + (n - (i + 1))))) =
   rs.take i ++ (rs.drop (i + 1)).take (n - (i + 1)) ++ [z] ++ rs.drop n:=by
 have key : ∀ (P:List α) (m:Nat) (Q:List α),P.length = m → (P ++ Q).take m ++ List.replicate 1 z ++ (P ++ Q).drop (m + 1) = P ++ [z] ++ Q.drop 1:=by
  intro P m Q hP
  subst hP
  rw [List.take_left,List.drop_append,List.drop_eq_nil_of_le (by omega),List.nil_append,show P.length + 1 - P.length = 1 from by omega]
  rfl
 rw [show n - (i + (n - (i + 1))) = 1 from by omega,key _ _ _ (by simp;omega),List.drop_drop,show i + (n - (i + 1)) + 1 = n from by omega]
theorem qbz {rs:List (List AV)} (hrs : ∀ row,row ∈ rs → AV.pure.pureL row = true) (i n:Nat) : ∀ row,row ∈ rs.take i ++ (rs.drop (i + 1)).take (n - (i + 1)) ++ [zeroSess.row] ++ rs.drop n → AV.pure.pureL row = true:=by
 intro row hr
 rcases List.mem_append.1 hr with hr|hr
 ·rcases List.mem_append.1 hr with hr|hr
  ·rcases List.mem_append.1 hr with hr|hr
   ·exact hrs row (List.mem_of_mem_take hr)
   ·exact hrs row (List.mem_of_mem_drop (List.mem_of_mem_take hr))
  ·obtain rfl:=List.mem_singleton.1 hr;rfl
 ·exact hrs row (List.mem_of_mem_drop hr)
theorem qeD (rs:List (List AV)) (hrs : ∀ row,row ∈ rs → AV.pure.pureL row = true) (hrc:rs.all (fun row=>row.length == 5 && row.all j5) = true) (n i:Nat) (hi:i < n) (hn:n ≤ rs.length) (hn6:n ≤ 1000000) :
  qo C1.P 157 [.os 0 0 n,.v (.int .i64 (i:Int)),.v (.int .i64 ((i + 1:Nat):Int))] [.own false 5 rs] (.os 0 0 (n - 1)) [.own false 5 (rs.take i ++ (rs.drop (i + 1)).take (n - (i + 1)) ++ [zeroSess.row] ++ rs.drop n)]:=by
 refine qa (C:=C1) Tryz.func157 rfl _ Tryz.ntmps157 (Nat.le_of_ble_eq_true rfl) _ Tryz.results157 1 rfl rfl ?_
 repeat' (first|refine qe ?_|(first|(refine qgg ?_)|(refine Jm ?_)|(refine qdI ?_)|(apply kD;apply Xa;(case hx=>rfl);(case hT=>rfl);(case he=>rfl);(case hE=>rfl);(case hn=>rfl);(case hsrc=>apply QR;rfl;rfl;(show 0 + (i + 1) + (n - (i + 1)) ≤ rs.length;omega);rfl;exact hrc);(case hfit=>simp;omega);(case hN=>exact nle rfl)))|((first|refine qb ?_ ?_|refine qc ?_ ?_|refine xsC ?_ ?_);all_goals (intro hc;have hp:=hc;try simp at hp;try (exfalso;omega)))|refine qp ?_ ?_)
 all_goals try (exfalso;omega)
 have hpu:=qbz hrs i n
 have hL:(List.take (n - (i + 1)) (List.drop (i + 1) rs)).length = n - (i + 1):=by simp;omega
 (apply jp (rs:=[.tmp 6]) [] 1;(case hr=>(repeat (first|exact qS|(apply qU;rfl)|(apply qK;rfl;rfl;rfl;rfl;rfl))));(case hL=>rfl);(case hh=>(repeat (first|exact qf|refine jV ?_|refine qH ?_ ?_));all_goals (simp only [Nat.zero_add,Nat.sub_zero,hL];exact qg2 rs i n hi hn _));(case hi=>first|exact (rfl:_ = ([]:List (Nat × Nat)))|exact (rfl:_ = [((0:Nat),(0:Nat))])|exact (rfl:_ = [((0:Nat),(0:Nat)),(1,1)]));(case hz=>first|rfl|(simp [jI,AV.ren,AV.ren.renL,qZ,qu,qX];done)|(simp [jI,AV.ren,AV.ren.renL,qZ,qu,qX, *];done)|(simp [jI,AV.ren,AV.ren.renL,qZ,qu,qX];omega)))
def JJ (u:Upl) (t:qC) (e:Int):AV := .tup [xw u,.v (str t),.v (.int .i64 e)]
def qgQ (u:Upl) (now:Int) (k:Nat):Upl := { u with sess:=(qz u.sess now).eraseIdx k }
def K1 (u:Upl) (now:Int) (k:Nat) (s:Sess):AV:=if s.text.length < s.size then JJ Ju [] 4 else JJ (qgQ u now k) s.text 0
theorem qiI {h:Nat → HB} {n k:Nat} {l:List Sess} {now:Int} (hk:k < (qz l now).length) (hn:h n = .own false 5 (((yQ l now).map Sess.row).take k ++ (((yQ l now).map Sess.row).drop (k + 1)).take ((qz l now).length - (k + 1)) ++ [zeroSess.row] ++ ((yQ l now).map Sess.row).drop (qz l now).length)) :
  Rz h (.os n 0 ((qz l now).length - 1)) (.sl false (((qz l now).eraseIdx k).map Sess.row)):=by
 have hlen:=kz l now
 refine Yo hn (by simp;omega) ?_
 have e:((((yQ l now).map Sess.row).take k ++ (((yQ l now).map Sess.row).drop (k + 1)).take ((qz l now).length - (k + 1)) ++ [zeroSess.row] ++ ((yQ l now).map Sess.row).drop (qz l now).length).drop 0).take ((qz l now).length - 1) = ((qz l now).eraseIdx k).map Sess.row:=by
  rw [List.drop_zero,List.append_assoc,List.take_append_of_le_length (by simp;omega),List.take_of_length_le (by simp;omega),List.eraseIdx_eq_take_drop_succ,List.map_append]
  congr 1
  ·rw [List.map_take, ← zM l now,List.take_take,Nat.min_eq_left (by omega)]
  ·rw [List.map_drop, ← zM l now,List.drop_take]
 rw [e]
 exact zT fun _=>rfl
theorem qar (u:Upl) (hu:UBig u) (who:qC) (hw:who.length ≤ 9223372036854775807) (number now:Int) (he:jA u who number now ≠ 0) :
  jO C.P 128 [xw u,.v (str who),.v (.int .i64 number),.v (.int .i64 now)] (JJ Ju [] (jA u who number now)):=by
 refine qa Tryz.func128 rfl _ Tryz.ntmps128 (Nat.le_of_ble_eq_true rfl) _ Tryz.results128 0 rfl rfl ?_
 repeat' (first|refine qe ?_|(first|refine xsQ Tryz.func126 (YE u hu who hw number now he ..) ?_)|((first|refine qb ?_ ?_|refine qc ?_ ?_|refine xsC ?_ ?_);all_goals (intro hc;have hp:=hc;try simp at hp;try (exfalso;omega)))|refine qp ?_ ?_)
 all_goals try (exfalso;simp_all;done)
 (exact j1 (rs:=[.cell 8 26,.tmp 9,.tmp 10]))
theorem qa0 (u:Upl) (hu:UBig u) (who:qC) (hw:who.length ≤ 9223372036854775807) (number now:Int) (hb0:js u now = 0) (hnm:ql who = true) (k:Nat) (hk:j0 (xD who number) (qz u.sess now) = k) (s:Sess) (hs:(qz u.sess now)[k]? = some s) :
  jO C.P 128 [xw u,.v (str who),.v (.int .i64 number),.v (.int .i64 now)] (K1 u now k s):=by
 have hkl:k < (qz u.sess now).length:=(List.getElem?_eq_some_iff.1 hs).1
 have hr:=JT hs
 have hsl:(qz u.sess now).length ≤ 20:=Nat.le_trans (vE _ _) (uok hb0).len
 have hdel:=qeD ((yQ u.sess now).map Sess.row) (jq fun _=>rfl) (yA fun _=>rfl) (qz u.sess now).length k hkl (by simpa using kz u.sess now) (by omega)
 have hpu:=qbz (rs:=(yQ u.sess now).map Sess.row) (jq fun _=>rfl) k (qz u.sess now).length
 refine qa Tryz.func128 rfl _ Tryz.ntmps128 (Nat.le_of_ble_eq_true rfl) _ Tryz.results128 0 rfl rfl ?_
 repeat' (first|refine qe ?_|(first|(apply qN Tryz.func126 rfl rfl;intro hIsFn;refine yr ([]) hIsFn (JY u hu who hw number now hb0 hnm k hk ..) ?_)|(refine vV ?_)|(apply qN Tryz.func157 rfl rfl;intro hIsFn;refine Qm ([2]) 2 hIsFn (hdel ..) ?_))|((first|refine qb ?_ ?_|refine qc ?_ ?_|refine xsC ?_ ?_);all_goals (intro hc;have hp:=hc;try simp at hp;try (exfalso;omega)))|refine qp ?_ ?_)
 all_goals try (exfalso;simp_all;done)
 ·rw [show K1 u now k s = JJ Ju [] 4 from by unfold K1;rw [if_pos hp]]
  (exact j1 (rs:=[.cell 8 26,.tmp 9,.tmp 10]))
 ·skip
  rw [show K1 u now k s = JJ (qgQ u now k) s.text 0 from by unfold K1;rw [if_neg (by omega)]]
  (refine yu (rs:=[.cell 8 26,.tmp 9,.tmp 10]) ?_;(repeat' (first|(apply qiI hkl;rfl)|exact qL|apply qk|exact qB rfl|exact yi|exact vS|apply jT|apply yl|apply jQ|apply yo|apply jY|apply yq|refine vY ?_|apply y0));all_goals trace_state)
end Go.Proofs.YtiljlcgmcmjcoaaGreatDoor
set_option linter.unusedSimpArgs false
set_option maxHeartbeats 1000000
namespace Go.Proofs.YtiljlcgmcmjcoaaGreatDoor
open Go.Ab Go.RowKit
set_option maxRecDepth 10000
attribute [local irreducible] Awp ye ji qQ Red qF Go.Ab.Fin qo Rz xx qG qO ResOk jK je jX qW
end Go.Proofs.YtiljlcgmcmjcoaaGreatDoor
set_option linter.unusedSimpArgs false
namespace Go.Proofs.YtiljlcgmcmjcoaaGreatDoor
theorem Vw {l:List Sess}:qv (fun a b=>decide (a.number < b.number)) l = true ↔ l.Pairwise (fun a b=>a.number < b.number):=by
 induction l with
 | nil=>simp [qv]
 | cons x l ih =>
   simp only [qv,Bool.and_eq_true,ih,List.pairwise_cons]
   constructor
   ·rintro ⟨h1,h2⟩
    refine ⟨?_,h2⟩
    cases l with
    | nil=>simp
    | cons y l =>
      simp at h1
      intro z hz
      rcases List.mem_cons.1 hz with rfl|hz
      ·exact h1
      ·have:=(List.pairwise_cons.1 h2).1 z hz;omega
   ·rintro ⟨h1,h2⟩
    refine ⟨?_,h2⟩
    cases l with
    | nil=>rfl
    | cons y l=>simpa using h1 y (List.mem_cons_self ..)
theorem wi (s:Sess) (l:List Sess) (who:qC):j9 (s :: l) who = (if s.who = who then s.size else 0) + j9 l who:=by simp [j9]
theorem Kx {l:List Sess} (p:Sess → Bool) (who:qC) (h : ∀ s,s ∈ l → 0 ≤ s.size):j9 (l.filter p) who ≤ j9 l who:=by
 induction l with
 | nil=>simp
 | cons s l ih =>
   have ih:=ih fun t ht=>h t (List.mem_cons_of_mem _ ht)
   have h0:=h s (List.mem_cons_self ..)
   rw [wi]
   by_cases hp:p s = true
   ·rw [List.filter_cons_of_pos hp,wi];omega
   ·rw [List.filter_cons_of_neg hp];split<;>omega
theorem YT {u:Upl} (h1:zH u = true) (h2:u.sess.length ≤ 20) (h3 : ∀ s,s ∈ u.sess → yj u.next s = 0) (h4:u.sess.Pairwise (fun a b=>a.number < b.number)) (h5 : ∀ s,s ∈ u.sess → j9 u.sess s.who ≤ u.room):yM u = 0:=by
 unfold yM
 rw [if_pos h1,if_neg (by omega),if_pos (jL.2 h3),if_pos (Vw.2 h4),if_pos (show ZQ u = true from List.all_eq_true.2 fun s hs=>by simpa using h5 s hs)]
theorem ke {u:Upl} (h:yM u = 0):zH u = true ∧ u.sess.length ≤ 20 ∧ (∀ s,s ∈ u.sess → yj u.next s = 0) ∧ u.sess.Pairwise (fun a b=>a.number < b.number) ∧ ∀ s,s ∈ u.sess → j9 u.sess s.who ≤ u.room:=by
 obtain ⟨a,b,c,d,e⟩:=ZJ h
 exact ⟨a,b,c,Vw.1 d,fun s hs=>by have:=List.all_eq_true.1 e s hs;simpa using this⟩
theorem Jp {u:Upl} (t:Int) (h:yM u = 0):yM (yD u t) = 0:=by
 obtain ⟨a,b,c,d,e⟩:=ke h
 refine YT a (Nat.le_trans (vE _ _) b) (fun s hs=>c s (kL hs)) (d.filter _) (fun s hs=>?_)
 have h1:=Kx (l:=u.sess) (zz t) s.who (fun s hs=>(zh (c s hs)).1)
 have h2:=e s (kL hs)
 show j9 (qz u.sess t) s.who ≤ u.room
 unfold qz
 omega
theorem Vq {next:Int} {s:Sess} (h:yj next s = 0):1 ≤ s.number ∧ s.number ≤ next - 1:=by
 unfold yj at h
 split at h
 ·rename_i h1
  simp [qA] at h1;omega
 ·cases h
theorem qcA {next:Int} {s:Sess} (h:yj next s = 0):yj (next + 1) s = 0:=by
 have hn:=Vq h
 have e:qA s.number 1 (next + 1 - 1) = qA s.number 1 (next - 1):=by
  rw [Bool.eq_iff_iff];simp [qA];omega
 unfold yj at h ⊢
 rw [e];exact h
theorem qaQ {u:Upl} {who:qC} {size now:Int} (h:yE u who size now = 0):js u now = 0 ∧ ql who = true ∧ 0 ≤ size ∧ size ≤ 300 ∧ u.next ≠ 1099511627776 ∧ (qz u.sess now).length ≠ 20 ∧ j9 (qz u.sess now) who + size ≤ u.room:=by
 unfold yE at h
 split at h
 ·rename_i h1
  split at h
  ·rename_i h2
   split at h
   ·cases h
   ·rename_i h3
    split at h
    ·cases h
    ·rename_i h4
     split at h
     ·cases h
     ·rename_i h5
      exact ⟨h1,h2,by omega,by omega,fun e=>h3 (.inr (.inr e)),h4,by omega⟩
  ·cases h
 ·rename_i h1;exact absurd h h1
theorem qbv {u:Upl} {who:qC} {size now:Int} (h:yE u who size now = 0):yM (Ym u who size now) = 0:=by
 obtain ⟨h1,h2,h3,h4,h5,h6,h7⟩:=qaQ h
 have ok:=uok h1
 obtain ⟨n0,n1,l0,l1,r0,r1,x0,x1,_,_⟩:=ok
 obtain ⟨a,b,c,d,e⟩:=ke (Jp now (YO h1).1)
 have hU:(yD u now).sess = qz u.sess now:=rfl
 have hn:(yD u now).next = u.next:=rfl
 have hr:(yD u now).room = u.room:=rfl
 rw [hU] at b c d e
 rw [hn] at c
 rw [hr] at e
 refine YT ?_ ?_ ?_ ?_ ?_
 ·have e1:qA u.lasts 1 1000000 = true:=by simp [qA];omega
  have e2:qA u.room 0 100000 = true:=by simp [qA];omega
  have e3:qA (u.next + 1) 1 1099511627776 = true:=by simp [qA];omega
  show (qA u.lasts 1 1000000 && qA u.room 0 100000 && qA (u.next + 1) 1 1099511627776) = true
  rw [e1,e2,e3];rfl
 ·simp [Ym];omega
 ·intro s hs
  simp only [Ym,List.mem_append,List.mem_singleton] at hs
  rcases hs with hs|rfl
  ·exact qcA (c s hs)
  ·have w1:qA u.next 1 u.next = true:=by simp [qA];omega
   have w2:qA size 0 300 = true:=by simp [qA];omega
   have w3:qA (now + u.lasts) 0 2199023255552 = true:=by simp [qA];omega
   simp [yj,Ym,w1,w2,w3,h2];omega
 ·show (qz u.sess now ++ [_]).Pairwise _
  rw [List.pairwise_append]
  refine ⟨d,by simp,fun s hs t ht=>?_⟩
  obtain rfl:=List.mem_singleton.1 ht
  have:=Vq (c s hs)
  show s.number < u.next
  omega
 ·intro s hs
  simp only [Ym,List.mem_append,List.mem_singleton] at hs
  show j9 (qz u.sess now ++ [_]) s.who ≤ u.room
  rw [Vz]
  rcases hs with hs|rfl
  ·have:=e s hs
   by_cases hw:who = s.who
   ·rw [if_pos hw];rw [← hw];exact h7
   ·rw [if_neg hw];omega
  ·simpa using h7
end Go.Proofs.YtiljlcgmcmjcoaaGreatDoor
