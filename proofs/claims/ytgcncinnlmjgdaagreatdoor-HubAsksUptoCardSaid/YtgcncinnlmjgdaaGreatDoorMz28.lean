import Derived.Test.YtgcncinnlmjgdaaGreatDoorMz27
import Derived.Test.YtgcncinnlmjgdaaGreatDoorMz22
import Derived.Test.YtgcncinnlmjgdaaGreatDoorMz8
import Derived.Test.YtgcncinnlmjgdaaGreatDoorMz12
set_option linter.unusedSimpArgs false
set_option linter.unnecessarySimpa false
set_option linter.unusedVariables false
set_option maxHeartbeats 1000000
set_option maxRecDepth 10000
namespace Go.Proofs.YtgcncinnlmjgdaaGreatDoor
open Go.Ab Go.RowKit
attribute [local irreducible] Awp j9 jr ye Red qz Go.Ab.Fin qf Rz wz jF jU ResOk yA j1 xR qX
theorem qoJ (h:Hub) (r:Rqt) (hk:r.kind < 1 ∨ 8 < r.kind):qf C2h.P 37 [.op 0 0 0] (HS h r) (xt (kz 0) 7) (HS h r):=by
 refine qJ (C:=C2h) 2 ?_
 repeat' (first|refine qg ?_|(first|fail)|(refine xsS ?_ ?_;all_goals first|exact False.elim|intro hp hc)|refine xsA ?_ ?_)
 all_goals try (exfalso;first|omega|(rcases hk with hk|hk<;>simp_all<;>omega))
 all_goals ((exact yp (rs:=[.cell 2 48,.tmp 3]) [] 2 tz5))
theorem qlF (h:Hub) (r:Rqt) (rb:r.who.length ≤ 1000000000) (hk:1 ≤ r.kind ∧ r.kind ≤ 8) (hn:qj r.who = false):qf C2h.P 37 [.op 0 0 0] (HS h r) (xt (kz 0) 1) (HS h r):=by
 have hw:=xJ r.who (jq rb);rw [hn] at hw;refine qJ (C:=C2h) 2 ?_
 repeat' (first|refine qg ?_|(first|refine jT (hw ..) ?_)|(refine xsS ?_ ?_;all_goals first|exact False.elim|intro hp hc)|refine xsA ?_ ?_)
 all_goals try (exfalso;omega)
 all_goals ((exact yp (rs:=[.cell 2 48,.tmp 3]) [] 2 tz5))
def QX (n:Int) (b:Bool) (x1:Bool) (R1:List (List AV)) (x2:Bool) (R2:List (List AV)) (c:Int) (m:Bool):List AV:=[.v (.int .i64 0),.v (.int .i64 n),.v (.bool b),.sl x1 R1,.sl x2 R2,.v (.int .i64 c),.v (.bool m)]
theorem qe1 (h h' : Hub) (r:Rqt) (rb:r.who.length ≤ 1000000000) (hn:qj r.who = true) (hk:r.kind = 8) (rows:List (List AV)) (hpu : ∀ row,row ∈ rows → AV.pure.pureL row = true) (cs:List AV) (k:Nat) (hcp:AV.pure.pureL cs = true) (hc:qf C2h.P 97 [.op 0 0 0] (HS h r) (xt (kz 0) 0) [.own false 17 [.os 2 0 k :: cs],.dead,.own false 4 rows]) :
  qf C2h.P 37 [.op 0 0 0] (HS h r) (xt (kz 0) 0) [.own false 17 [.os 2 0 k :: cs],.dead,.own false 4 rows]:=by
 have hw:=xJ r.who (jq rb);rw [hn] at hw;obtain ⟨kind,who,folder,name,key,text,number,offset,base,chs⟩:=r;dsimp only at *;subst hk;refine qJ (C:=C2h) 2 ?_
 repeat' (first|refine qg ?_|(first|refine jT (hw ..) ?_|(refine vc [0,1] [4] [(0,.own false 17 [.os 4 0 k :: cs]),(1,.dead),(4,.own false 4 rows)] 5 (xt (kz 0) 0) qi (hc) KH KD (by ((repeat' (first|exact xn|exact yM|refine jY _ ?_ ?_|refine qY ?_ ?_|exact yG|exact xr (sideM_pure _)|exact xr (VL _)|exact xr (goesM_pure _)|exact Jy (fun _=>rfl)|refine jt ?_|exact jg|apply qe|exact qy rfl|(apply yr;exact .inr (of_decide_eq_true rfl))|(apply jC;exact .inr (of_decide_eq_true rfl))|(apply jB;exact .inr (of_decide_eq_true rfl))|first|exact J9 hcp|exact zw hpu)))<;>fail) ?_))|(refine xsS ?_ ?_;all_goals first|exact False.elim|intro hp hc)|refine xsA ?_ ?_)
 all_goals try (exfalso;omega)
 apply WI (rs:=[.cell 2 48,.tmp 3]) [(4,2)] 3
 case hr=>(repeat (first|exact zM|(apply zN;rfl)|(apply kM;rfl;rfl;rfl;rfl;rfl)))
 case hL=>rfl
 case hh =>
  refine qhK ?_ (hc:=hcp);refine zH 1 (jy rfl) ?_;refine q_r ?_;exact qn
 case hi=>exact rfl
 case hz=>first|rfl|trace_state
theorem qe0 (h h' : Hub) (r:Rqt) (rb:r.who.length ≤ 1000000000) (hn:qj r.who = true) (hk:r.kind = 8) (n:Int) (b:Bool) (x1:Bool) (R1:List (List AV)) (x2:Bool) (R2:List (List AV)) (c:Int) (m:Bool) (e:Int) (hc:qf C2h.P 97 [.op 0 0 0] (HS h r) (xt (QX n b x1 R1 x2 R2 c m) e) (HS h' r)) :
  qf C2h.P 37 [.op 0 0 0] (HS h r) (xt (QX n b x1 R1 x2 R2 c m) e) (HS h' r):=by
 have hw:=xJ r.who (jq rb);rw [hn] at hw;obtain ⟨kind,who,folder,name,key,text,number,offset,base,chs⟩:=r;dsimp only at *;subst hk;refine qJ (C:=C2h) 2 ?_
 repeat' (first|refine qg ?_|(first|refine jT (hw ..) ?_|(refine yz [0,1] [(0,.own false 17 [xC 1 h' ⟨8,who,folder,name,key,text,number,offset,base,chs⟩]),(1,.own false 4 (h'.fols.map Fol.row))] (xt (QX n b x1 R1 x2 R2 c m) e) qi (hc) KH KD tz1 ?_))|(refine xsS ?_ ?_;all_goals first|exact False.elim|intro hp hc)|refine xsA ?_ ?_)
 all_goals try (exfalso;omega)
 (exact yp (rs:=[.cell 2 48,.tmp 3]) [] 2 tz5)
theorem ql2 (h h' : Hub) (r:Rqt) (rb:r.who.length ≤ 1000000000) (hn:qj r.who = true) (hk:r.kind = 3) (n:Int) (b:Bool) (x1:Bool) (R1:List (List AV)) (x2:Bool) (R2:List (List AV)) (c:Int) (m:Bool) (e:Int) (hc:qf C2h.P 98 [.op 0 0 0] (HS h r) (xt (QX n b x1 R1 x2 R2 c m) e) (HS h' r)) :
  qf C2h.P 37 [.op 0 0 0] (HS h r) (xt (QX n b x1 R1 x2 R2 c m) e) (HS h' r):=by
 have hw:=xJ r.who (jq rb);rw [hn] at hw;obtain ⟨kind,who,folder,name,key,text,number,offset,base,chs⟩:=r;dsimp only at *;subst hk;refine qJ (C:=C2h) 2 ?_
 repeat' (first|refine qg ?_|(first|refine jT (hw ..) ?_|(refine yz [0,1] [(0,.own false 17 [xC 1 h' ⟨3,who,folder,name,key,text,number,offset,base,chs⟩]),(1,.own false 4 (h'.fols.map Fol.row))] (xt (QX n b x1 R1 x2 R2 c m) e) qi (hc) KH KD tz1 ?_))|(refine xsS ?_ ?_;all_goals first|exact False.elim|intro hp hc)|refine xsA ?_ ?_)
 all_goals try (exfalso;omega)
 (exact yp (rs:=[.cell 2 48,.tmp 3]) [] 2 tz5)
theorem ql3 (h h' : Hub) (r:Rqt) (rb:r.who.length ≤ 1000000000) (hn:qj r.who = true) (hk:r.kind = 2) (n:Int) (b:Bool) (x1:Bool) (R1:List (List AV)) (x2:Bool) (R2:List (List AV)) (c:Int) (m:Bool) (e:Int) (hc:qf C2h.P 99 [.op 0 0 0] (HS h r) (xt (QX n b x1 R1 x2 R2 c m) e) (HS h' r)) :
  qf C2h.P 37 [.op 0 0 0] (HS h r) (xt (QX n b x1 R1 x2 R2 c m) e) (HS h' r):=by
 have hw:=xJ r.who (jq rb);rw [hn] at hw;obtain ⟨kind,who,folder,name,key,text,number,offset,base,chs⟩:=r;dsimp only at *;subst hk;refine qJ (C:=C2h) 2 ?_
 repeat' (first|refine qg ?_|(first|refine jT (hw ..) ?_|(refine yz [0,1] [(0,.own false 17 [xC 1 h' ⟨2,who,folder,name,key,text,number,offset,base,chs⟩]),(1,.own false 4 (h'.fols.map Fol.row))] (xt (QX n b x1 R1 x2 R2 c m) e) qi (hc) KH KD tz1 ?_))|(refine xsS ?_ ?_;all_goals first|exact False.elim|intro hp hc)|refine xsA ?_ ?_)
 all_goals try (exfalso;omega)
 (exact yp (rs:=[.cell 2 48,.tmp 3]) [] 2 tz5)
theorem qe2 (h h' : Hub) (r:Rqt) (rb:r.who.length ≤ 1000000000) (hn:qj r.who = true) (hk:r.kind = 7) (n:Int) (b:Bool) (x1:Bool) (R1:List (List AV)) (x2:Bool) (R2:List (List AV)) (c:Int) (m:Bool) (e:Int) (hc:qf C2h.P 105 [.op 0 0 0] (HS h r) (xt (QX n b x1 R1 x2 R2 c m) e) (HS h' r)) (hm:qf C2h.P 104 [.op 0 0 0,.v (.int .i64 2)] (HS h r) (.v (.int .i64 0)) (HS h r)) :
  qf C2h.P 37 [.op 0 0 0] (HS h r) (xt (QX n b x1 R1 x2 R2 c m) e) (HS h' r):=by
 have hw:=xJ r.who (jq rb);rw [hn] at hw;obtain ⟨kind,who,folder,name,key,text,number,offset,base,chs⟩:=r;dsimp only at *;subst hk;refine qJ (C:=C2h) 2 ?_
 repeat' (first|refine qg ?_|(first|refine jT (hw ..) ?_|(refine yz [0,1] [(0,.own false 17 [xC 1 h' ⟨7,who,folder,name,key,text,number,offset,base,chs⟩]),(1,.own false 4 (h'.fols.map Fol.row))] (xt (QX n b x1 R1 x2 R2 c m) e) qi (hc) KH KD tz1 ?_)|(refine yz [0,1] [(0,.own false 17 [xC 1 h ⟨7,who,folder,name,key,text,number,offset,base,chs⟩]),(1,.own false 4 (h.fols.map Fol.row))] (.v (.int .i64 (0))) qi (hm) KH KD tz1 ?_))|(refine xsS ?_ ?_;all_goals first|exact False.elim|intro hp hc)|refine xsA ?_ ?_)
 all_goals try (exfalso;omega)
 (exact yp (rs:=[.cell 2 48,.tmp 3]) [] 2 tz5)
theorem ql1 (h h' : Hub) (r:Rqt) (rb:r.who.length ≤ 1000000000) (hn:qj r.who = true) (hk:r.kind = 1) (n:Int) (b:Bool) (x1:Bool) (R1:List (List AV)) (x2:Bool) (R2:List (List AV)) (c:Int) (m:Bool) (e:Int) (hc:qf C2h.P 106 [.op 0 0 0,ya r.chs] (HS h r) (xt (QX n b x1 R1 x2 R2 c m) e) (HS h' r)) (hm:qf C2h.P 104 [.op 0 0 0,.v (.int .i64 2)] (HS h r) (.v (.int .i64 0)) (HS h r)) :
  qf C2h.P 37 [.op 0 0 0] (HS h r) (xt (QX n b x1 R1 x2 R2 c m) e) (HS h' r):=by
 have hw:=xJ r.who (jq rb);rw [hn] at hw;obtain ⟨kind,who,folder,name,key,text,number,offset,base,chs⟩:=r;dsimp only at *;subst hk;refine qJ (C:=C2h) 2 ?_
 repeat' (first|refine qg ?_|(first|refine jT (hw ..) ?_|(refine yz [0,1] [(0,.own false 17 [xC 1 h' ⟨1,who,folder,name,key,text,number,offset,base,chs⟩]),(1,.own false 4 (h'.fols.map Fol.row))] (xt (QX n b x1 R1 x2 R2 c m) e) qi (hc) KH KD tz1 ?_)|(refine yz [0,1] [(0,.own false 17 [xC 1 h ⟨1,who,folder,name,key,text,number,offset,base,chs⟩]),(1,.own false 4 (h.fols.map Fol.row))] (.v (.int .i64 (0))) qi (hm) KH KD tz1 ?_))|(refine xsS ?_ ?_;all_goals first|exact False.elim|intro hp hc)|refine xsA ?_ ?_)
 all_goals try (exfalso;omega)
 (exact yp (rs:=[.cell 2 48,.tmp 3]) [] 2 tz5)
theorem qoW (h:Hub) (r:Rqt) (rb:r.who.length ≤ 1000000000) (hn:qj r.who = true) (hk:r.kind = 1) (hm:qf C2h.P 104 [.op 0 0 0,.v (.int .i64 2)] (HS h r) (.v (.int .i64 9)) (HS h r)) :
  qf C2h.P 37 [.op 0 0 0] (HS h r) (xt (kz 0) 9) (HS h r):=by
 have hw:=xJ r.who (jq rb);rw [hn] at hw;obtain ⟨kind,who,folder,name,key,text,number,offset,base,chs⟩:=r;dsimp only at *;subst hk;refine qJ (C:=C2h) 2 ?_
 repeat' (first|refine qg ?_|(first|refine jT (hw ..) ?_|(refine yz [0,1] [(0,.own false 17 [xC 1 h ⟨1,who,folder,name,key,text,number,offset,base,chs⟩]),(1,.own false 4 (h.fols.map Fol.row))] (.v (.int .i64 (9))) qi (hm) KH KD tz1 ?_))|(refine xsS ?_ ?_;all_goals first|exact False.elim|intro hp hc)|refine xsA ?_ ?_)
 all_goals try (exfalso;omega)
 (exact yp (rs:=[.cell 2 48,.tmp 3]) [] 2 tz5)
theorem qoX (h:Hub) (r:Rqt) (rb:r.who.length ≤ 1000000000) (hn:qj r.who = true) (hk:r.kind = 7) (hm:qf C2h.P 104 [.op 0 0 0,.v (.int .i64 2)] (HS h r) (.v (.int .i64 9)) (HS h r)) :
  qf C2h.P 37 [.op 0 0 0] (HS h r) (xt (kz 0) 9) (HS h r):=by
 have hw:=xJ r.who (jq rb);rw [hn] at hw;obtain ⟨kind,who,folder,name,key,text,number,offset,base,chs⟩:=r;dsimp only at *;subst hk;refine qJ (C:=C2h) 2 ?_
 repeat' (first|refine qg ?_|(first|refine jT (hw ..) ?_|(refine yz [0,1] [(0,.own false 17 [xC 1 h ⟨7,who,folder,name,key,text,number,offset,base,chs⟩]),(1,.own false 4 (h.fols.map Fol.row))] (.v (.int .i64 (9))) qi (hm) KH KD tz1 ?_))|(refine xsS ?_ ?_;all_goals first|exact False.elim|intro hp hc)|refine xsA ?_ ?_)
 all_goals try (exfalso;omega)
 (exact yp (rs:=[.cell 2 48,.tmp 3]) [] 2 tz5)
theorem qoY (h:Hub) (hu:UBig h.ups) (r:Rqt) (rb:r.who.length ≤ 1000000000) (hn:qj r.who = true) (hk:r.kind = 4) :
  qf C2h.P 37 [.op 0 0 0] (HS h r) (xt (kz (Ju h.ups r.who r.number h.now).2.1) (Ju h.ups r.who r.number h.now).2.2) (HS (if (Ju h.ups r.who r.number h.now).2.2 = 0 then { h with ups:=(Ju h.ups r.who r.number h.now).1 } else h) r):=by
 have ho:=qol h.ups hu r.who rb r.number h.now;have hs:=qbK h r (Ju h.ups r.who r.number h.now).1 (Ju h.ups r.who r.number h.now).2.1 (Ju h.ups r.who r.number h.now).2.2;have hw:=xJ r.who (jq rb);rw [hn] at hw;obtain ⟨kind,who,folder,name,key,text,number,offset,base,chs⟩:=r;dsimp only at *;subst hk;generalize Ju h.ups who number h.now = P at *;obtain ⟨u,n,e⟩:=P;dsimp only at *;generalize (if e = 0 then ({ h with ups:=u }:Hub) else h) = h' at *;refine qJ (C:=C2h) 2 ?_
 repeat' (first|refine qg ?_|(first|refine jT (hw ..) ?_|refine yS (ho ..) ?_|(refine yz [0,1] [(0,.own false 17 [xC 1 h' ⟨4,who,folder,name,key,text,number,offset,base,chs⟩]),(1,.own false 4 (h'.fols.map Fol.row))] (xt (kz n) e) qi (hs) KH KD tz1 ?_))|(refine xsS ?_ ?_;all_goals first|exact False.elim|intro hp hc)|refine xsA ?_ ?_)
 all_goals try (exfalso;omega)
 (exact yp (rs:=[.cell 2 48,.tmp 3]) [] 2 tz5)
theorem ql0 (h:Hub) (hu:UBig h.ups) (r:Rqt) (rb:r.who.length ≤ 1000000000) (rt:r.text.length ≤ 1000000000) (hn:qj r.who = true) (hk:r.kind = 5) :
  qf C2h.P 37 [.op 0 0 0] (HS h r) (xt (kz (Jh h.ups r.who r.number r.offset r.text h.now).2.1) (Jh h.ups r.who r.number r.offset r.text h.now).2.2) (HS (if (Jh h.ups r.who r.number r.offset r.text h.now).2.2 = 0 then { h with ups:=(Jh h.ups r.who r.number r.offset r.text h.now).1 } else h) r):=by
 have ho:=qk2 h.ups hu r.who rb r.number r.offset r.text rt h.now;have hs:=qbK h r (Jh h.ups r.who r.number r.offset r.text h.now).1 (Jh h.ups r.who r.number r.offset r.text h.now).2.1 (Jh h.ups r.who r.number r.offset r.text h.now).2.2;have hw:=xJ r.who (jq rb);rw [hn] at hw;obtain ⟨kind,who,folder,name,key,text,number,offset,base,chs⟩:=r;dsimp only at *;subst hk;generalize Jh h.ups who number offset text h.now = P at *;obtain ⟨u,n,e⟩:=P;dsimp only at *;generalize (if e = 0 then ({ h with ups:=u }:Hub) else h) = h' at *;refine qJ (C:=C2h) 2 ?_
 repeat' (first|refine qg ?_|(first|refine jT (hw ..) ?_|refine yS (ho ..) ?_|(refine yz [0,1] [(0,.own false 17 [xC 1 h' ⟨5,who,folder,name,key,text,number,offset,base,chs⟩]),(1,.own false 4 (h'.fols.map Fol.row))] (xt (kz n) e) qi (hs) KH KD tz1 ?_))|(refine xsS ?_ ?_;all_goals first|exact False.elim|intro hp hc)|refine xsA ?_ ?_)
 all_goals try (exfalso;omega)
 (exact yp (rs:=[.cell 2 48,.tmp 3]) [] 2 tz5)
theorem qnI (h:Hub) (hu:UBig h.ups) (r:Rqt) (rb:r.who.length ≤ 1000000000) (hn:qj r.who = true) (hk:r.kind = 6) :
  qf C2h.P 37 [.op 0 0 0] (HS h r) (xt (kz (qag h.ups r.who r.number h.now).1) (qag h.ups r.who r.number h.now).2) (HS h r):=by
 have ho:=qmP h.ups hu r.who rb r.number h.now;have hw:=xJ r.who (jq rb);rw [hn] at hw;obtain ⟨kind,who,folder,name,key,text,number,offset,base,chs⟩:=r;dsimp only at *;subst hk;generalize qag h.ups who number h.now = P at *;obtain ⟨n,e⟩:=P;dsimp only at *;refine qJ (C:=C2h) 2 ?_
 repeat' (first|refine qg ?_|(first|refine jT (hw ..) ?_|refine yS (ho ..) ?_)|(refine xsS ?_ ?_;all_goals first|exact False.elim|intro hp hc)|refine xsA ?_ ?_)
 all_goals try (exfalso;omega)
 (exact yp (rs:=[.cell 2 48,.tmp 3]) [] 2 tz5)
def Ky (r:Rqt):AV := .agg r.row
def Ka (x:Hub) (a:AV) (e:Int):AV := .tup [vT x,a,.v (.int .i64 e)]
theorem qpJ (h:Hub) (hb:HBig h) (r:Rqt) (he:¬ yE h = 0):jN C.P 12 [vT h,Ky r] (Ka qhA (Jf noAns) (yE h)):=by
 have hck:=Je h hb;generalize yE h = E at *;refine qJ 0 ?_;exact Yp
theorem qpK (h h' : Hub) (hb:HBig h) (hr:HRight h) (r:Rqt) (n:Int) (b:Bool) (x1:Bool) (R1:List (List AV)) (x2:Bool) (R2:List (List AV)) (c:Int) (m:Bool) (p1 : ∀ row,row ∈ R1 → AV.pure.pureL row = true) (p2 : ∀ row,row ∈ R2 → AV.pure.pureL row = true) (sv:qf C2h.P 37 [.op 0 0 0] (HS h r) (xt (QX n b x1 R1 x2 R2 c m) 0) (HS h' r)) :
  jN C.P 12 [vT h,Ky r] (Ka h' (.agg (QX n b false R1 false R2 c m)) 0):=by
 have hck:=Je h hb;rw [vC.2 hr] at hck;have hco:=JJ h hr;have hcp:=Y6 h hr;refine qJ 0 ?_
 repeat' (first|refine qg ?_|(first|refine jT (hck ..) ?_|(refine jP ([]) qi (hco ..) ?_)|(refine yz [5,4] [(5,.own false 17 [xC 4 h' r]),(4,.own false 4 (h'.fols.map Fol.row))] (xt (QX n b x1 R1 x2 R2 c m) 0) qi (sv) KH KD KD ?_))|(refine xsS ?_ ?_;all_goals first|exact False.elim|intro hp hc)|refine xsA ?_ ?_)
 all_goals try (exfalso;omega)
 (exact Jd (rs:=[.cell 4 28,.cell 5 48,.tmp 6]) (hz:=Vb))
theorem qnS (h h' : Hub) (hb:HBig h) (hr:HRight h) (r:Rqt) (n:Int) (b:Bool) (x1:Bool) (R1:List (List AV)) (x2:Bool) (R2:List (List AV)) (c:Int) (m:Bool) (e:Int) (he:¬ e = 0) (sv:qf C2h.P 37 [.op 0 0 0] (HS h r) (xt (QX n b x1 R1 x2 R2 c m) e) (HS h' r)) :
  jN C.P 12 [vT h,Ky r] (Ka h (Jf (QW e)) 0):=by
 have hck:=Je h hb;rw [vC.2 hr] at hck;have hco:=JJ h hr;have hcp:=Y6 h hr;refine qJ 0 ?_
 repeat' (first|refine qg ?_|(first|refine jT (hck ..) ?_|(refine jP ([]) qi (hco ..) ?_)|(refine yz [5,4] [(5,.own false 17 [xC 4 h' r]),(4,.own false 4 (h'.fols.map Fol.row))] (xt (QX n b x1 R1 x2 R2 c m) e) qi (sv) KH KD KD ?_))|(refine xsS ?_ ?_;all_goals first|exact False.elim|intro hp hc)|refine xsA ?_ ?_)
 all_goals try (exfalso;omega)
 (exact Jd (rs:=[.cell 4 28,.cell 5 48,.tmp 6]) (hz:=Vb))
theorem qlL (h h' : Hub) (hb:HBig h) (hr:HRight h) (r:Rqt) (k:Nat) (f:qb) (hk:k = h.fols.length + 1) (hh:h'.fols = XU h.fols f) (sv:qf C2h.P 37 [.op 0 0 0] (HS h r) (xt (kz 0) 0) [.own false 17 [.os 2 0 k :: (xC 2 h' r).drop 1],.dead,.own false 4 (XV h.fols f)]) :
  jN C.P 12 [vT h,Ky r] (Ka h' (Jf noAns) 0):=by
 have hck:=Je h hb;rw [vC.2 hr] at hck;have hco:=JJ h hr;have hcp:=Y6 h hr;have hpu : ∀ row,row ∈ XV h.fols f → AV.pure.pureL row = true:=qbr _ _;have hrz : ∀ {g:Nat → HB} {n:Nat},g n = .own false 4 (XV h.fols f) → Rz g (.os n 0 k) (Jo h'.fols):=fun hn=>by rw [hh];exact qoH hn hk
 refine qJ 0 ?_
 repeat' (first|refine qg ?_|(first|refine jT (hck ..) ?_|(refine jP ([]) qi (hco ..) ?_)|(refine vc [5,4] [6] [(5,.own false 17 [.os 6 0 k :: (xC 2 h' r).drop 1]),(4,.dead),(6,.own false 4 (XV h.fols f))] 7 (xt (kz 0) 0) qi (sv) KH KD (by ((repeat' (first|exact xn|exact yM|refine jY _ ?_ ?_|refine qY ?_ ?_|exact yG|exact xr (sideM_pure _)|exact xr (VL _)|exact xr (goesM_pure _)|exact Jy (fun _=>rfl)|refine jt ?_|exact jg|apply qe|exact qy rfl|(apply yr;exact .inr (of_decide_eq_true rfl))|(apply jC;exact .inr (of_decide_eq_true rfl))|(apply jB;exact .inr (of_decide_eq_true rfl))|first|exact J9 rfl|exact zw hpu)))<;>fail) ?_))|(refine xsS ?_ ?_;all_goals first|exact False.elim|intro hp hc)|refine xsA ?_ ?_)
 all_goals try (exfalso;omega)
 (exact Jd (rs:=[.cell 4 28,.cell 5 48,.tmp 6]) (hz:=by (repeat' (first|((apply hrz;rfl))|exact jX|apply qH|exact ju rfl|exact zP|exact Kc|apply vn|apply kP|apply vo|apply kN|apply vR|apply kO|refine Kb ?_|apply JD));all_goals rfl))
theorem qkW {h:Hub} (hr:HRight h) {f w:qb} (hw:¬ jD h.gras f w = 0) : ∃ (k:Nat) (hk:k < h.fols.length),xX h.fols f = k ∧ x6 h.fols f = true ∧ h.fols[k].name = f ∧ wO h.fols f = some h.fols[k].jou ∧ JRight h.fols[k].jou:=by
 have hh:x6 h.fols f = true:=by rw [hr.has];exact qah hw
 obtain ⟨hk,h1,h2,_⟩:=qhr hr.rise hh;refine ⟨xX h.fols f,hk,rfl,hh,h1,?_,(hr.each _ (List.getElem_mem _)).2⟩;unfold wO;rw [show h.fols.find? (fun s=>decide (s.name = f)) = h.fols.find? (atF f) from rfl,h2];rfl
theorem qo8 (n:Int):kz n = QX n false true [] true [] 0 false:=rfl
theorem qlf : ∀ row,row ∈ ([]:List (List AV)) → AV.pure.pureL row = true:=fun row h=>by cases h
theorem qpg (n:Int):(.agg (QX n false false [] false [] 0 false):AV) = Jf ⟨0,n,ze⟩:=rfl
theorem t_z (h h' : Hub) (hb:HBig h) (hr:HRight h) (r:Rqt) (n e:Int) (sv:qf C2h.P 37 [.op 0 0 0] (HS h r) (xt (kz n) e) (HS h' r)) :
  jN C.P 12 [vT h,Ky r] (Ka (if e = 0 then h' else h) (Jf (if e = 0 then ⟨0,n,ze⟩ else QW e)) 0):=by
 rw [qo8] at sv;by_cases h0:e = 0
 ·subst h0;rw [if_pos rfl,if_pos rfl, ← qpg];exact qpK h h' hb hr r _ _ _ _ _ _ _ _ qlf qlf sv
 ·rw [if_neg h0,if_neg h0];exact qnS h h' hb hr r _ _ _ _ _ _ _ _ e h0 sv
theorem QT {f:FuncId} {ys:List AV} {x x' : Hub} {a a' : Ans} (h:jN C.P f ys (Ka x (Jf a) 0)) (e:(x',a') = (x,a)):jN C.P f ys (Ka x' (Jf a') 0):=by
 injection e with e1 e2;rw [e1,e2];exact h
theorem qgb (h:Hub) (r:Rqt):AV.pure.pureL ((xC 2 h r).drop 1) = true:=rfl
theorem Zh (h:Hub) (hb:HBig h) (hr:HRight h) (r:Rqt) (rb:RBig r):jN C.P 12 [vT h,Ky r] (Ka (y8 h r).1 (Jf (y8 h r).2) 0):=by
 obtain ⟨a1,a2,a3,a4⟩:=xo hr.gra;have hl:=hr.len;by_cases hk:1 ≤ r.kind ∧ r.kind ≤ 8
 case neg =>
  refine QT (t_z h h hb hr r 0 7 (qoJ h r (by omega))) ?_;unfold y8;rw [if_pos hk];rfl
 by_cases hn:qj r.who = false
 ·refine QT (t_z h h hb hr r 0 1 (qlF h r rb.who hk hn)) ?_;unfold y8;rw [if_neg (fun e=>e hk),if_pos hn];rfl
 have hn1:qj r.who = true:=by simpa using hn
 have hW:y8 h r = if r.kind = 8 then Q1 h r else if r.kind = 3 then Ko h r else if r.kind = 2 then Kv h r else if r.kind = 4 then Zo h (Ju h.ups r.who r.number h.now) else if r.kind = 5 then Zo h (Jh h.ups r.who r.number r.offset r.text h.now) else if r.kind = 6 then qgd h r else WC h r:=by
  unfold y8;rw [if_neg (fun e=>e hk),if_neg hn]
 by_cases k8:r.kind = 8
 ·rw [if_pos k8] at hW;rw [hW];unfold Q1;by_cases h0:jG h.gras r.folder r.who = 0
  ·rw [if_pos h0];by_cases h8:h.fols.length = 8
   ·rw [if_pos h8];have sv:=qe0 h h r rb.who hn1 k8 _ _ _ _ _ _ _ _ _ (KA h hb r rb fun _=>h8);rw [if_pos h0] at sv;exact QT (t_z h h hb hr r 0 2 sv) rfl
   ·rw [if_neg h8];have sc:=qlD h hb r rb hr h0 h8
    have e1:xC 2 (qcb h r) r = .os 2 0 (h.fols.length + 1) :: (xC 2 (qcb h r) r).drop 1:=by
     show AV.os 2 0 (qcb h r).fols.length :: _ = _;rw [show (qcb h r).fols.length = h.fols.length + 1 from VK _ _];rfl
    rw [e1] at sc;have sv:=qe1 h (qcb h r) r rb.who hn1 k8 _ (qbr _ _) _ _ (qgb _ _) sc;exact qlL h (qcb h r) hb hr r _ r.folder rfl rfl sv
  ·rw [if_neg h0];have sv:=qe0 h h r rb.who hn1 k8 _ _ _ _ _ _ _ _ _ (KA h hb r rb fun e=>absurd e h0);rw [if_neg h0] at sv;refine QT (t_z h h hb hr r 0 _ sv) ?_;rw [if_neg h0,if_neg h0]
 rw [if_neg k8] at hW;by_cases k3:r.kind = 3
 ·rw [if_pos k3] at hW;rw [hW];unfold Ko;by_cases h1:jD h.gras r.folder r.who < 1
  ·rw [if_pos h1];exact QT (t_z h h hb hr r 0 9 (ql2 h h r rb.who hn1 k3 _ _ _ _ _ _ _ _ _ (qjk h r hr h1))) rfl
  ·rw [if_neg h1];refine QT (t_z h (qhq h r) hb hr r 0 _ (ql2 h _ r rb.who hn1 k3 _ _ _ _ _ _ _ _ _ (qoI h hb r rb hr h1))) ?_;unfold qhq;by_cases h0:(zE h.gras r.folder r.who r.name r.number).2 = 0
   ·simp only [if_pos h0];rfl
   ·simp only [if_neg h0]
 rw [if_neg k3] at hW;by_cases k2:r.kind = 2
 ·rw [if_pos k2] at hW;rw [hW];unfold Kv;by_cases h1:jD h.gras r.folder r.who < 1
  ·rw [if_pos h1];exact QT (t_z h h hb hr r 0 9 (ql3 h h r rb.who hn1 k2 _ _ _ _ _ _ _ _ _ (qjl h r hr h1))) rfl
  ·rw [if_neg h1];obtain ⟨k,hkl,e1,e2,e3,e4,e5⟩:=qkW hr (f:=r.folder) (w:=r.who) (by omega);have sp:=qoK h hb r hr h1 k hkl e1 e2;rw [e4];have hrw:V9 h.fols[k].jou r.number 10 = Jw h.fols[k].jou r.number 10:=by unfold V9;rw [if_neg (by simp [y0.2 e5])]
   rw [hrw] at sp;dsimp only;generalize Jw h.fols[k].jou r.number 10 = P at *;obtain ⟨p,e⟩:=P;dsimp only at *;have sv:=ql3 h h r rb.who hn1 k2 0 p.reset false (p.tree.map Ent.row) false (p.coms.map Com.row) p.cur p.more e sp;by_cases h0:e = 0
   ·subst h0;rw [if_pos rfl];exact qpK h h hb hr r _ _ _ _ _ _ _ _ (js fun _=>rfl) (js fun _=>rfl) sv
   ·rw [if_neg h0];exact qnS h h hb hr r _ _ _ _ _ _ _ _ e h0 sv
 rw [if_neg k2] at hW;by_cases k4:r.kind = 4
 ·rw [if_pos k4] at hW;rw [hW];refine QT (t_z h _ hb hr r _ _ (qoY h hb.ups r rb.who hn1 k4)) ?_;unfold Zo;by_cases h0:(Ju h.ups r.who r.number h.now).2.2 = 0
  ·simp only [if_pos h0]
  ·simp only [if_neg h0]
 rw [if_neg k4] at hW;by_cases k5:r.kind = 5
 ·rw [if_pos k5] at hW;rw [hW];refine QT (t_z h _ hb hr r _ _ (ql0 h hb.ups r rb.who rb.text hn1 k5)) ?_;unfold Zo;by_cases h0:(Jh h.ups r.who r.number r.offset r.text h.now).2.2 = 0
  ·simp only [if_pos h0]
  ·simp only [if_neg h0]
 rw [if_neg k5] at hW;by_cases k6:r.kind = 6
 ·rw [if_pos k6] at hW;rw [hW];refine QT (t_z h h hb hr r _ _ (qnI h hb.ups r rb.who hn1 k6)) ?_;unfold qgd;by_cases h0:(qag h.ups r.who r.number h.now).2 = 0
  ·simp only [if_pos h0]
  ·simp only [if_neg h0]
 rw [if_neg k6] at hW;rw [hW];unfold WC;have hmay:=Wi h r a3 (by omega) 2;by_cases h2:jD h.gras r.folder r.who < 2
 ·rw [if_pos h2];rw [if_pos h2] at hmay;by_cases k7:r.kind = 7
  ·exact QT (t_z h h hb hr r 0 9 (qoX h r rb.who hn1 k7 hmay)) rfl
  ·exact QT (t_z h h hb hr r 0 9 (qoW h r rb.who hn1 (by omega) hmay)) rfl
 rw [if_neg h2];rw [if_neg h2] at hmay;obtain ⟨k,hkl,e1,e2,e3,e4,e5⟩:=qkW hr (f:=r.folder) (w:=r.who) (by omega);have hset:=fun j=>qno hr.rise hkl e3 j
 by_cases k7:r.kind = 7
 ·rw [if_pos k7];unfold qfA;by_cases h0:(ke h.ups r.who r.number h.now).2.2 = 0
  ·rw [if_pos h0]
   have hx:(ke h.ups r.who r.number h.now).2.1.length ≤ 1000:=by
    unfold ke;by_cases q1:jM h.ups r.who r.number h.now = 0
    ·rw [if_pos q1];have:=Xi q1;split
     ·simp
     ·show (zd h.ups r.who r.number h.now).text.length ≤ 1000;omega
    ·rw [if_neg q1];simp
   have sf:=qlE h hb r rb hr h0 hx k hkl e1 e2 e3;refine QT (t_z h _ hb hr r _ _ (qe2 h _ r rb.who hn1 k7 _ _ _ _ _ _ _ _ _ sf hmay)) ?_;unfold Zy qof qiz;rw [e4];dsimp only;rw [JT e5];generalize ke h.ups r.who r.number h.now = P at *;obtain ⟨u,x,e⟩:=P;dsimp only at *;generalize yx h.fols[k].jou r.key [⟨2,r.name,[],x,r.base⟩] = Q at *;obtain ⟨j',n,e'⟩:=Q;dsimp only at *;by_cases q0:e' = 0
   ·simp only [if_pos q0,hset]
   ·simp only [if_neg q0]
  ·rw [if_neg h0];refine QT (t_z h h hb hr r 0 _ (qe2 h h r rb.who hn1 k7 _ _ _ _ _ _ _ _ _ (qeO h hb r rb h0) hmay)) ?_;simp only [if_neg h0]
 ·rw [if_neg k7];have k1:r.kind = 1:=by omega
  have sc:=qeN h hb r rb hr r.chs rb.chs k hkl e1 e2 e3;refine QT (t_z h _ hb hr r _ _ (ql1 h _ r rb.who hn1 k1 _ _ _ _ _ _ _ _ _ sc hmay)) ?_;unfold Zy qiz;rw [e4];dsimp only;rw [JT e5];generalize yx h.fols[k].jou r.key r.chs = Q at *;obtain ⟨j',n,e'⟩:=Q;dsimp only at *;by_cases q0:e' = 0
  ·simp only [if_pos q0,hset]
  ·simp only [if_neg q0]
theorem qmq (h:Hub) (hb:HBig h) (r:Rqt) (rb:RBig r):jN C.P 12 [vT h,Ky r] (Ka (Z3 h r).1 (Jf (Z3 h r).2.1) (Z3 h r).2.2):=by
 unfold Z3;by_cases h0:yE h = 0
 ·rw [if_pos h0];exact Zh h hb (vC.1 h0) r rb
 ·rw [if_neg h0];exact qpJ h hb r h0
def qi0 (lasts room:Int):Hub:=⟨[],[],⟨[],1,lasts,room⟩,0⟩
def qm3 (lasts room:Int):Hub × Int:=if yu ⟨[],1,lasts,room⟩ = 0 then (qi0 lasts room,0) else (qhA,yu ⟨[],1,lasts,room⟩)
theorem qlZ (a b c:Int):UBig ⟨[],a,b,c⟩:=⟨nofun,nofun,by simp⟩
theorem qn0 (lasts room:Int):jN C.P 28 [.v (.int .i64 lasts),.v (.int .i64 room)] (.tup [vT (qm3 lasts room).1,.v (.int .i64 (qm3 lasts room).2)]):=by
 have hc:=K7 ⟨[],1,lasts,room⟩ (qlZ _ _ _);unfold qm3;generalize yu ⟨[],1,lasts,room⟩ = E at *;by_cases h0:E = 0
 ·rw [if_pos h0];subst h0;refine qJ 0 ?_
  repeat' (first|refine qg ?_|(first|refine jT (hc ..) ?_)|(refine xsS ?_ ?_;all_goals first|exact False.elim|intro hp hc)|refine xsA ?_ ?_)
  all_goals try (exfalso;omega)
  (exact Jd (rs:=[.cell 4 28,.tmp 5]) (hz:=Vb))
 ·rw [if_neg h0];refine qJ 0 ?_
  repeat' (first|refine qg ?_|(first|refine jT (hc ..) ?_)|(refine xsS ?_ ?_;all_goals first|exact False.elim|intro hp hc)|refine xsA ?_ ?_)
  all_goals try (exfalso;omega)
  (exact Jd (rs:=[.cell 4 28,.tmp 5]) (hz:=Vb))
theorem qml (h:Hub) (hb:HBig h) (f:qb):jN C.P 29 [vT h,.v (str f)] (.tup [qU (qhS h f).1,.v (.int .i64 (qhS h f).2)]):=by
 have hc:=Je h hb;unfold qhS;by_cases h0:yE h = 0
 case neg =>
  rw [if_neg h0];generalize yE h = E at *;refine qJ 0 ?_
  repeat' (first|refine qg ?_|(first|refine jT (hc ..) ?_)|(refine xsS ?_ ?_;all_goals first|exact False.elim|intro hp hc)|refine xsA ?_ ?_)
  all_goals try (exfalso;omega)
  (exact Jd (rs:=[.tmp 4,.tmp 5]) (hz:=Vb))
 rw [if_pos h0];have hr:=vC.1 h0;rw [h0] at hc;have hl:=hr.len;have hf:=Ve h f (by omega) hr.rise;unfold qnT
 cases hh:x6 h.fols f with
 | false =>
   rw [qfR.2 hh];rw [hh] at hf;refine qJ 0 ?_
   repeat' (first|refine qg ?_|(first|refine jT (hc ..) ?_|refine yS (hf ..) ?_)|(refine xsS ?_ ?_;all_goals first|exact False.elim|intro hp hc)|refine xsA ?_ ?_)
   all_goals try (exfalso;omega)
   (exact Jd (rs:=[.tmp 4,.tmp 5]) (hz:=Vb))
 | true =>
   obtain ⟨hk,h1,h2,_⟩:=qhr hr.rise hh
   have hj:wO h.fols f = some h.fols[xX h.fols f].jou:=by
    unfold wO;rw [show h.fols.find? (fun s=>decide (s.name = f)) = h.fols.find? (atF f) from rfl,h2];rfl
   rw [hj];dsimp only;rw [hh] at hf;have ht:=qmn h.fols[xX h.fols f].jou (hb.fols.each _ (List.getElem_mem _)).jou;have hrow:=qK (f:=Fol.row) hk
   have hz:qbO h.fols[xX h.fols f].jou = (vg h.fols[xX h.fols f].jou,0):=by
    have:=y0.2 (hr.each _ (List.getElem_mem hk)).2;unfold qbO;simp [this]
   rw [hz] at ht;generalize vg h.fols[xX h.fols f].jou = T at *;clear hj h1 h2 hr hz;generalize hp:xX h.fols f = k at *;refine qJ 0 ?_
   repeat' (first|refine qg ?_|(first|refine jT (hc ..) ?_|refine yS (hf ..) ?_|refine yS (ht ..) ?_)|(refine xsS ?_ ?_;all_goals first|exact False.elim|intro hp hc)|refine xsA ?_ ?_)
   all_goals try (exfalso;omega)
   (exact Jd (rs:=[.tmp 4,.tmp 5]) (hz:=Vb))
theorem qif (h:Hub) (hb:HBig h) (hl:h.fols.length ≤ 1000000) (hg:h.gras.length ≤ 1000000):jN C.P 9 [vT h,vT h] (.v (.bool true)):=by
 have h1:=qie h.gras hg;have h2:=qoU h.ups h.ups hb.ups.len hb.ups.len;rw [decide_eq_true rfl] at h2
 have hj : ∀ s,s ∈ h.fols → jN C.P 32 [.agg s.jou.row,.agg s.jou.row] (.v (.bool true)):=fun s hs=>by
  have:=qig s.jou s.jou (hb.fols.each s hs).jou (hb.fols.each s hs).jou
  rwa [decide_eq_true rfl] at this
 clear hb;obtain ⟨F,G,U,now⟩:=h;dsimp only at *;have e0:(!decide (now = now)) = false:=by simp
 refine qJ 0 ?_
 (repeat apply jW);refine qO ?_;(repeat' (first|apply qF|refine wk ?_|refine we ?_|refine wJ ?_|refine J4 ?_|refine wi ?_|refine YO ?_|refine wj ?_|refine X1 ?_|refine J6 ?_|refine wI ?_|(first|fail)|refine xY ?_|refine vA ?_|refine vz ?_|refine xL ?_|refine xK ?_|refine kZ ?_|refine k9 ?_|refine vy ?_|refine vx ?_|((first|refine vl ?_ ?_|refine vk ?_ ?_);all_goals (intro hc;have hp:=hc;first|(simp at hp;done)|((try simp at hp);first|(exfalso;omega)|skip)))));show Awp _ _ _ _ _
 refine Ym 2 0 ?_;refine Ym 3 1 ?_
 repeat' (first|refine qg ?_|(first|refine jT (h1 ..) ?_|refine jT (h2 ..) ?_)|(refine xsS ?_ ?_;all_goals first|exact False.elim|intro hp hc)|refine xsA ?_ ?_)
 all_goals try (exfalso;first|omega|contradiction)
 refine Zq (ts:=[(2,.fp [Hub.row ⟨F,G,U,now⟩] 0 0),(3,.fp [Hub.row ⟨F,G,U,now⟩] 0 0),(5,.v (.int .i64 ((0:Nat):Int)))]) ?_;refine qB (fun n σ => ∃ i:Nat,i ≤ F.length ∧ n = F.length - i ∧ (True) ∧ σ = ⟨[(2,.fp [Hub.row ⟨F,G,U,now⟩] 0 0),(3,.fp [Hub.row ⟨F,G,U,now⟩] 0 0),(5,.v (.int .i64 (i:Int)))],[],C.nh⟩) F.length ⟨0,Nat.zero_le _,rfl,trivial,rfl⟩ ?_;rintro n σ ⟨i,hi,rfl, -,rfl⟩;by_cases hlt:i < F.length
 ·have hr:=qK (f:=Fol.row) hlt;have hji:=hj F[i] (List.getElem_mem _);have e1:(!decide (F[i].name = F[i].name)) = false:=by simp
  clear hj h1 h2
  repeat' (first|refine qg ?_|(first|refine jT (hji ..) ?_)|(refine xsS ?_ ?_;all_goals first|exact False.elim|intro hp hc)|refine xsA ?_ ?_)
  all_goals try (exfalso;first|omega|contradiction)
  refine ⟨F.length - (i + 1),_,by omega,xsM (ts:=[(2,.fp [Hub.row ⟨F,G,U,now⟩] 0 0),(3,.fp [Hub.row ⟨F,G,U,now⟩] 0 0),(5,.v (.int .i64 ((i + 1:Nat):Int)))]),i + 1,by omega,rfl,trivial,rfl⟩
 obtain rfl:i = F.length:=by omega
 repeat' (first|refine qg ?_|fail|(refine xsS ?_ ?_;all_goals first|exact False.elim|intro hp hc)|refine xsA ?_ ?_)
 all_goals try (exfalso;omega)
 (exact Jd (rs:=[.tmp 4]) (hz:=Vb))
theorem qid (a:Ans) (hb:PBig a.page):jN C.P 14 [Jf a,Jf a] (.v (.bool true)):=by
 have h1:=qih a.page a.page hb hb;rw [decide_eq_true rfl] at h1;have e0:decide (a.err = a.err) = true:=by simp
 have e1:decide (a.num = a.num) = true:=by simp
 refine qJ 0 ?_
 repeat' (first|refine qg ?_|(first|refine jT (h1 ..) ?_)|(refine xsS ?_ ?_;all_goals first|exact False.elim|intro hp hc)|refine xsA ?_ ?_)
 all_goals try (exfalso;first|omega|contradiction)
 (exact Jd (rs:=[.tmp 4]) (hz:=Vb))
theorem qlG {u:Upl} (h:yu u = 0):SBig u.sess:=by
 obtain ⟨a,b,c,d,e⟩:=kS h;refine ⟨fun s hs=>?_,by omega⟩;have hc:=c s hs;have h2:=vS hc;unfold yj at hc;split at hc
 ·split at hc
  ·rename_i hn;split at hc
   ·omega
   ·have:=(qfP hn).2;exact ⟨by omega,by omega⟩
  ·omega
 ·omega
theorem qle:JBig W0:=⟨⟨by simp [W0],by simp [W0]⟩,⟨by simp [W0],by simp [W0]⟩⟩
theorem Z4 {h:Hub} (hb:HBig h) (hr:HRight h) {r:Rqt} (rb:RBig r):HBig (y8 h r).1:=by
 have hR:=(YZ hr r).right;obtain ⟨a1,a2,a3,a4⟩:=xo hr.gra
 have hkeep:FBig h.fols ∧ GBig h.gras:=⟨hb.fols,hb.gras⟩
 suffices hs:FBig (y8 h r).1.fols ∧ GBig (y8 h r).1.gras from ⟨hs.1,hs.2,qlG hR.ups⟩
 have hcom : ∀ (u:Upl) (l:List Chg),CBig l → FBig (Zy h r u l).1.fols ∧ GBig (Zy h r u l).1.gras:=fun u l lb=>by
  unfold Zy
  cases hj:wO h.fols r.folder with
  | none=>exact hkeep
  | some j =>
    obtain ⟨hm,hh⟩:=QF hj;have hJ:JRight j:=(hr.each _ hm).2;dsimp only;by_cases h0:(xF j r.key l).2.2 = 0
    ·rw [if_pos h0];refine ⟨⟨fun s hs=>?_,by show (Y1 _ _ _).length ≤ _;unfold Y1;rw [List.length_map];exact hb.fols.len⟩,hb.gras⟩
     rcases qao hs with ⟨rfl,_⟩|⟨hs,_⟩
     ·refine ⟨rb.folder,?_⟩;show JBig (xF j r.key l).1;rw [JT hJ];exact qfq (hb.fols.each _ hm).jou lb rb.key
     ·exact hb.fols.each s hs
    ·rw [if_neg h0];exact hkeep
 unfold y8;split
 ·exact hkeep
 split
 ·exact hkeep
 split
 ·unfold Q1;split
  ·split
   ·exact hkeep
   ·refine ⟨⟨fun s hs=>?_,by show (XU _ _).length ≤ _;rw [VK];have:=hr.len;omega⟩,qeP hb.gras a3 (by omega) (jq rb.folder) (jq rb.who)⟩;rcases Jq.1 hs with rfl|hs
    ·exact ⟨rb.folder,qle⟩
    ·exact hb.fols.each s hs
  ·exact hkeep
 split
 ·unfold Ko;split
  ·exact hkeep
  ·by_cases h0:(zE h.gras r.folder r.who r.name r.number).2 = 0
   ·rw [if_pos h0];refine ⟨hb.fols,?_⟩;show GBig (zE _ _ _ _ _).1;rw [(qbl h0).2.2];exact qeP hb.gras a3 (by omega) (jq rb.folder) (jq rb.name)
   ·rw [if_neg h0];exact hkeep
 split
 ·unfold Kv;split
  ·exact hkeep
  ·split
   ·exact hkeep
   ·split<;>exact hkeep
 split
 ·unfold Zo;split<;>exact hkeep
 split
 ·unfold Zo;split<;>exact hkeep
 split
 ·unfold qgd;split<;>exact hkeep
 ·unfold WC;split
  ·exact hkeep
  split
  ·unfold qfA;split
   ·refine hcom _ _ ⟨fun c hc=>?_,by simp⟩;rw [List.mem_singleton.1 hc];refine ⟨rb.name,by simp,?_⟩;show (ke h.ups r.who r.number h.now).2.1.length ≤ _;unfold ke;by_cases q1:jM h.ups r.who r.number h.now = 0
    ·rw [if_pos q1];have:=Xi q1;split
     ·simp
     ·show (zd h.ups r.who r.number h.now).text.length ≤ _;omega
    ·rw [if_neg q1];simp
   ·exact hkeep
  ·exact hcom _ _ rb.chs
theorem yg:PBig ze:=⟨⟨by simp [ze],by simp [ze]⟩,⟨by simp [ze],by simp [ze]⟩⟩
theorem qmx {h:Hub} (hb:HBig h) (hr:HRight h) (r:Rqt):PBig (y8 h r).2.page:=by
 have hcom : ∀ (u:Upl) (l:List Chg),PBig (Zy h r u l).2.page:=fun u l=>by
  unfold Zy;split
  ·exact yg
  ·split<;>exact yg
 unfold y8;split
 ·exact yg
 split
 ·exact yg
 split
 ·unfold Q1;split
  ·split<;>exact yg
  ·exact yg
 split
 ·unfold Ko;split
  ·exact yg
  ·split<;>exact yg
 split
 ·unfold Kv;split
  ·exact yg
  ·cases hj:wO h.fols r.folder with
   | none=>exact yg
   | some j =>
     obtain ⟨hm,hh⟩:=QF hj;have hJ:JRight j:=(hr.each _ hm).2;have hB:JBig j:=(hb.fols.each _ hm).jou;dsimp only;split
     ·show PBig (Jw j r.number 10).1;unfold Jw;split
      ·exact yg
      split
      ·exact yg
      split
      ·exact ⟨hJ.now.big,⟨by simp,by simp⟩⟩
      ·refine ⟨⟨by simp,by simp⟩,⟨fun c hc=>hB.coms.each c (List.mem_of_mem_drop (List.mem_of_mem_take hc)),?_⟩⟩;have:=hJ.len;show (V5 j r.number 10).length ≤ _;unfold V5;simp;omega
     ·exact yg
 split
 ·unfold Zo;split<;>exact yg
 split
 ·unfold Zo;split<;>exact yg
 split
 ·unfold qgd;split<;>exact yg
 ·unfold WC;split
  ·exact yg
  split
  ·unfold qfA;split
   ·exact hcom _ _
   ·exact yg
  ·exact hcom _ _
def bH1:Hub:=⟨[⟨[102],W0⟩],[⟨[102],[97],3⟩],⟨[],1,10,1000⟩,0⟩
def bH2:Hub:=⟨[⟨[102],⟨[],1,[⟨1,[107],[⟨2,[120],[],[49],0⟩]⟩]⟩⟩],[⟨[102],[97],3⟩],⟨[],1,10,1000⟩,0⟩
def bR1:Rqt:=⟨8,[97],[102],[],[],[],0,0,0,[]⟩
def bR2:Rqt:=⟨1,[97],[102],[],[107],[],0,0,0,[⟨2,[120],[],[49],0⟩]⟩
theorem qg5:HBig (qi0 10 1000):=⟨⟨nofun,by decide⟩,⟨nofun,by decide⟩,⟨nofun,by decide⟩⟩
theorem qg6:RBig bR1:=⟨by decide,by decide,by decide,by decide,by decide,⟨nofun,by decide⟩⟩
theorem qg7:RBig bR2:=⟨by decide,by decide,by decide,by decide,by decide,⟨fun c hc=>by rw [List.mem_singleton.1 hc];exact ⟨by decide,by decide,by decide⟩,by decide⟩⟩
theorem qfa:jN C.P 8 [] (.v (.bool true)):=by
 have h1:=qn0 10 1000;rw [show qm3 10 1000 = (qi0 10 1000,0) from by kernel_rfl] at h1;have r0:HRight (qi0 10 1000):=vC.1 (by kernel_rfl);have h2:=Zh (qi0 10 1000) qg5 r0 bR1 qg6;have b1:=Z4 qg5 r0 qg6;have r1:=(YZ r0 bR1).right;rw [show y8 (qi0 10 1000) bR1 = (bH1,noAns) from by kernel_rfl] at h2 b1 r1;have h3:=Zh bH1 b1 r1 bR2 qg7;have b2:=Z4 b1 r1 qg7;rw [show y8 bH1 bR2 = (bH2,⟨0,1,ze⟩) from by kernel_rfl] at h3 b2;have h4:=qml bH2 b2 [102];rw [show qhS bH2 [102] = ([⟨[120],false,[49],1⟩],0) from by kernel_rfl] at h4;clear b1 b2 r0 r1;unfold Ka at h2 h3;refine qJ 0 ?_
 repeat' (first|refine qg ?_|(first|(refine jd ?_)|refine yS (h1 ..) ?_|refine yS (h2 ..) ?_|refine yS (h3 ..) ?_|refine yS (h4 ..) ?_)|(refine xsS ?_ ?_;all_goals first|exact False.elim|intro hp hc)|refine xsA ?_ ?_)
 all_goals try (exfalso;simp_all;done)
 all_goals (apply qR;rfl;first|rfl|simp;done)
theorem HRight.lens {h:Hub} (hr:HRight h):h.fols.length ≤ 1000000 ∧ h.gras.length ≤ 1000000:=by
 have:=hr.len;have:=(xo hr.gra).1;omega
end Go.Proofs.YtgcncinnlmjgdaaGreatDoor
