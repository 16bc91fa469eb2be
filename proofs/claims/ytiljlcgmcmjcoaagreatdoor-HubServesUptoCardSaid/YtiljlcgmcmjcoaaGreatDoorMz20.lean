import Derived.Test.YtiljlcgmcmjcoaaGreatDoorMz7
import Derived.Test.YtiljlcgmcmjcoaaGreatDoorMz15
import Derived.Test.YtiljlcgmcmjcoaaGreatDoorMz8
import Derived.Test.YtiljlcgmcmjcoaaGreatDoorMz19
set_option linter.unusedSimpArgs false
set_option linter.unnecessarySimpa false
set_option linter.unusedVariables false
namespace Go.Proofs.YtiljlcgmcmjcoaaGreatDoor
open Go.Op
structure Fol where
 name:qC
 jou:Jou
structure Hub where
 fols:List Fol
 gras:List Gra
 ups:Upl
 now:Int
structure Ans where
 err:Int
 num:Int
 page:Pag
def YX:Jou:=⟨[],1,[]⟩
def qa1:Hub:=⟨[],[],Ju,0⟩
def Xh:Ans:=⟨0,0,wu⟩
def Qy (e:Int):Ans:=⟨e,0,wu⟩
def ve (s:Fol):Int:=if ql s.name = true then vM s.jou else 1
def y9 (a b:Fol):Bool:=bytesLess a.name b.name
def vo (l:List Fol) (f:qC):Bool:=l.any (fun s=>decide (s.name = f))
def kG (l:List Gra) (f:qC):Bool:=l.any (fun g=>decide (g.folder = f))
def zw (h:Hub):Bool:=h.gras.all (fun g=>vo h.fols g.folder) && h.fols.all (fun s=>kG h.gras s.name)
def xR (h:Hub):Int :=
 if qA h.now 0 1099511627776 = false then 3
 else if 8 < h.fols.length then 2
 else if ¬ jU ve h.fols = 0 then jU ve h.fols
 else if qv y9 h.fols = false then 4
 else if ¬ jH h.gras = 0 then jH h.gras
 else if zw h = false then 5
 else yM h.ups
structure HRight (h:Hub):Prop where
 now:qA h.now 0 1099511627776 = true
 len:h.fols.length ≤ 8
 each : ∀ s,s ∈ h.fols → ql s.name = true ∧ JRight s.jou
 rise:qv y9 h.fols = true
 gra:jH h.gras = 0
 told : ∀ g,g ∈ h.gras → vo h.fols g.folder = true
 known : ∀ s,s ∈ h.fols → kG h.gras s.name = true
 ups:yM h.ups = 0
theorem VK {s:Fol}:ve s = 0 ↔ ql s.name = true ∧ JRight s.jou:=by
 unfold ve
 by_cases h:ql s.name = true
 ·rw [if_pos h,xE];simp [h]
 ·rw [if_neg h];simp [h]
theorem zV {h:Hub}:xR h = 0 ↔ HRight h:=by
 unfold xR
 constructor
 ·intro e
  by_cases h1:qA h.now 0 1099511627776 = false
  ·rw [if_pos h1] at e;omega
  rw [if_neg h1] at e
  by_cases h2:8 < h.fols.length
  ·rw [if_pos h2] at e;omega
  rw [if_neg h2] at e
  by_cases h3:jU ve h.fols = 0
  case neg=>rw [if_pos h3] at e;exact absurd e h3
  rw [if_neg (fun q=>q h3)] at e
  by_cases h4:qv y9 h.fols = false
  ·rw [if_pos h4] at e;omega
  rw [if_neg h4] at e
  by_cases h5:jH h.gras = 0
  case neg=>rw [if_pos h5] at e;exact absurd e h5
  rw [if_neg (fun q=>q h5)] at e
  by_cases h6:zw h = false
  ·rw [if_pos h6] at e;omega
  rw [if_neg h6] at e
  have h6:zw h = true:=by simpa using h6
  unfold zw at h6
  rw [Bool.and_eq_true,List.all_eq_true,List.all_eq_true] at h6
  exact ⟨by simpa using h1,by omega,fun s hs=>VK.1 (jL.1 h3 s hs),by simpa using h4,h5,h6.1,h6.2,e⟩
 ·rintro ⟨h1,h2,h3,h4,h5,h6,h7,h8⟩
  have h3:jU ve h.fols = 0:=jL.2 fun s hs=>VK.2 (h3 s hs)
  have h9:zw h = true:=by
   unfold zw
   rw [Bool.and_eq_true,List.all_eq_true,List.all_eq_true]
   exact ⟨h6,h7⟩
  rw [if_neg (by rw [h1];decide),if_neg (by omega),if_neg (fun q=>q h3),if_neg (by rw [h4];decide),if_neg (fun q=>q h5),if_neg (by rw [h9];decide),h8]
theorem Wm {α:Type} {lt:α → α → Bool} (htr : ∀ a b c,lt a b = true → lt b c = true → lt a c = true) : ∀ {l:List α},qv lt l = true ↔ l.Pairwise (fun a b=>lt a b = true)
 | []=>by simp [qv]
 | [x]=>by simp [qv]
 | x :: y :: l=>by
   have ih:=Wm htr (l:=y :: l)
   rw [show qv lt (x :: y :: l) = (lt x y && qv lt (y :: l)) from rfl,Bool.and_eq_true,List.pairwise_cons, ← ih]
   constructor
   ·rintro ⟨h1,h2⟩
    refine ⟨fun a ha=>?_,h2⟩
    have h3:=(List.pairwise_cons.1 (ih.1 h2)).1
    rcases List.mem_cons.1 ha with rfl|ha
    ·exact h1
    ·exact htr _ _ _ h1 (h3 a ha)
   ·rintro ⟨h1,h2⟩
    exact ⟨h1 y (List.mem_cons_self ..),h2⟩
theorem Yx {l:List Fol}:qv y9 l = true ↔ l.Pairwise (fun a b=>y9 a b = true):=Wm (lt:=y9) fun a b c h1 h2=>vT (a:=a.name) (b:=b.name) (c:=c.name) h1 h2
theorem KL {l:List Fol} (h:qv y9 l = true):(l.map Fol.name).Nodup:=by
 rw [List.Nodup,List.pairwise_map]
 refine (Yx.1 h).imp fun {a b} hab e=>?_
 have hab:bytesLess a.name b.name = true:=hab
 rw [e,xp] at hab
 cases hab
def vD (l:List Fol) (f:qC):Nat:=(l.takeWhile (fun s=>bytesLess s.name f)).length
theorem qfB (f:qC) : ∀ {l:List Fol},l.Pairwise (fun a b=>y9 a b = true) → ∃ A M Z,l = A ++ (M ++ Z) ∧ vD l f = A.length ∧ (∀ a,a ∈ A → bytesLess a.name f = true) ∧ (∀ z,z ∈ Z → bytesLess f z.name = true) ∧ ((∃ x,M = [x] ∧ x.name = f) ∨ (M = [] ∧ vo l f = false))
 | [],_=>⟨[],[],[],rfl,rfl,nofun,nofun,.inr ⟨rfl,rfl⟩⟩
 | x :: l,h=>by
   obtain ⟨h1,h2⟩:=List.pairwise_cons.1 h
   rcases w9 x.name f with ⟨h3,h4,h5⟩|⟨h3,h4,h5⟩|⟨h3,h4,h5⟩
   ·obtain ⟨A,M,Z,e1,e2,e3,e4,e5⟩:=qfB f h2
    refine ⟨x :: A,M,Z,by rw [e1];rfl,?_,?_,e4,?_⟩
    ·unfold vD at e2 ⊢
     rw [List.takeWhile_cons,if_pos h3,List.length_cons,e2,List.length_cons]
    ·intro a ha
     rcases List.mem_cons.1 ha with rfl|ha
     ·exact h3
     ·exact e3 a ha
    ·rcases e5 with e5|⟨e5,e6⟩
     ·exact .inl e5
     ·refine .inr ⟨e5,?_⟩
      show (decide (x.name = f) || vo l f) = false
      rw [e6,decide_eq_false h5];rfl
   ·refine ⟨[],[x],l,rfl,?_,nofun,fun z hz=>?_,.inl ⟨x,rfl,h3⟩⟩
    ·unfold vD
     rw [List.takeWhile_cons,if_neg (by rw [h4];decide)]
     try rfl
    ·have h6:bytesLess x.name z.name = true:=h1 z hz
     rw [h3] at h6;exact h6
   ·have h6 : ∀ z,z ∈ x :: l → bytesLess f z.name = true:=fun z hz=>by
     rcases List.mem_cons.1 hz with rfl|hz
     ·exact h3
     ·exact vT h3 (h1 z hz)
    refine ⟨[],[],x :: l,rfl,?_,nofun,h6,.inr ⟨rfl,?_⟩⟩
    ·unfold vD
     rw [List.takeWhile_cons,if_neg (by rw [h4];decide)]
     try rfl
    ·refine List.any_eq_false.2 fun z hz=>?_
     have h7:=h6 z hz
     simp only [decide_eq_true_eq]
     rintro rfl
     rw [xp] at h7;cases h7
def kY (l:List Fol) (f:qC):Option Jou:=(l.find? (fun s=>decide (s.name = f))).map Fol.jou
def QQ (l:List Fol) (f:qC) (j:Jou):List Fol:=l.map (fun s=>if s.name = f then ⟨s.name,j⟩ else s)
def Jz (l:List Fol) (f:qC):List Fol:=l.take (vD l f) ++ ⟨f,YX⟩ :: l.drop (vD l f)
theorem kC {l:List Fol} {f:qC}:vo l f = true ↔ ∃ s,s ∈ l ∧ s.name = f:=by
 unfold vo;rw [List.any_eq_true];simp
theorem z6 {l:List Gra} {f:qC}:kG l f = true ↔ ∃ g,g ∈ l ∧ g.folder = f:=by
 unfold kG;rw [List.any_eq_true];simp
theorem qcj {l:List Fol} {f:qC}:kY l f = none ↔ vo l f = false:=by
 unfold kY vo
 rw [Option.map_eq_none_iff,List.find?_eq_none,List.any_eq_false]
theorem YQ {l:List Fol} {f:qC} {j:Jou} (h:kY l f = some j):⟨f,j⟩ ∈ l ∧ vo l f = true:=by
 unfold kY at h
 obtain ⟨s,h1,rfl⟩:=Option.map_eq_some_iff.1 h
 have h2:=List.find?_some h1
 have h3:s.name = f:=by simpa using h2
 subst h3
 exact ⟨List.mem_of_find?_eq_some h1,kC.2 ⟨s,List.mem_of_find?_eq_some h1,rfl⟩⟩
theorem Zk (l:List Fol) (f:qC) (j:Jou):(QQ l f j).map Fol.name = l.map Fol.name:=by
 unfold QQ
 rw [List.map_map]
 apply List.map_congr_left
 intro s _
 show (if s.name = f then (⟨s.name,j⟩ : Fol) else s).name = s.name
 split<;>rfl
theorem XD {l:List Fol}:qv y9 l = qv bytesLess (l.map Fol.name):=by
 induction l with
 | nil=>rfl
 | cons x l ih =>
   cases l with
   | nil=>rfl
   | cons y l =>
     rw [show qv y9 (x :: y :: l) = (y9 x y && qv y9 (y :: l)) from rfl,ih];rfl
theorem qbn {l:List Fol} {f:qC} {j:Jou}:qv y9 (QQ l f j) = qv y9 l:=by rw [XD,Zk, ← XD]
theorem Z6 {l:List Fol} {f:qC}:vo l f = decide (f ∈ l.map Fol.name):=by
 rw [Bool.eq_iff_iff,kC,decide_eq_true_iff,List.mem_map]
theorem qf2 {l:List Fol} {f g:qC} {j:Jou}:vo (QQ l f j) g = vo l g:=by rw [Z6,Zk, ← Z6]
theorem Z8 {l:List Fol} {f:qC} {j:Jou} {s:Fol} (h:s ∈ QQ l f j):(s = ⟨f,j⟩ ∧ vo l f = true) ∨ (s ∈ l ∧ ¬ s.name = f):=by
 unfold QQ at h
 obtain ⟨x,hx,rfl⟩:=List.mem_map.1 h
 by_cases he:x.name = f
 ·rw [if_pos he,he]
  exact .inl ⟨rfl,kC.2 ⟨x,hx,he⟩⟩
 ·rw [if_neg he]
  exact .inr ⟨hx,he⟩
theorem WW {l:List Fol} (h:qv y9 l = true) {k:Nat} (hk:k < l.length) {f:qC} (hf:l[k].name = f) (j:Jou):QQ l f j = l.set k ⟨f,j⟩:=by
 apply List.ext_getElem
 ·simp [QQ]
 ·intro i h1 h2
  have hi:i < l.length:=by simpa [QQ] using h1
  have e:(QQ l f j)[i] = (if l[i].name = f then (⟨l[i].name,j⟩ : Fol) else l[i]):=by simp [QQ]
  rw [List.getElem_set,e]
  by_cases hik:k = i
  ·subst hik;rw [if_pos rfl,if_pos hf,hf]
  ·rw [if_neg hik,if_neg]
   intro e
   have:=(List.getElem_inj (h₀:=by simpa using hk) (h₁:=by simpa using hi) (KL h) (i:=k) (j:=i)).1 (by rw [List.getElem_map,List.getElem_map,hf,e])
   exact hik this
theorem V4 (l:List Fol) (f:qC):vD l f ≤ l.length:=(List.takeWhile_sublist _).length_le
theorem QH {l:List Fol} {f:qC} {s:Fol}:s ∈ Jz l f ↔ s = ⟨f,YX⟩ ∨ s ∈ l:=by
 unfold Jz
 rw [List.mem_append,List.mem_cons]
 have:s ∈ l ↔ s ∈ l.take (vD l f) ∨ s ∈ l.drop (vD l f):=by rw [← List.mem_append,List.take_append_drop]
 rw [this]
 constructor
 ·rintro (h|h|h)
  ·exact .inr (.inl h)
  ·exact .inl h
  ·exact .inr (.inr h)
 ·rintro (h|h|h)
  ·exact .inr (.inl h)
  ·exact .inl h
  ·exact .inr (.inr h)
theorem Y5 (l:List Fol) (f:qC):(Jz l f).length = l.length + 1:=by
 unfold Jz
 have:=V4 l f
 simp;omega
theorem qbG {l:List Fol} {f g:qC}:vo (Jz l f) g = true ↔ g = f ∨ vo l g = true:=by
 rw [kC,kC]
 constructor
 ·rintro ⟨s,hs,rfl⟩
  rcases QH.1 hs with rfl|hs
  ·exact .inl rfl
  ·exact .inr ⟨s,hs,rfl⟩
 ·rintro (rfl|⟨s,hs,rfl⟩)
  ·exact ⟨_,QH.2 (.inl rfl),rfl⟩
  ·exact ⟨s,QH.2 (.inr hs),rfl⟩
theorem qbE {l:List Fol} {f:qC} (h:qv y9 l = true) (hf:vo l f = false):qv y9 (Jz l f) = true:=by
 have hp:=Yx.1 h
 obtain ⟨A,M,Z,e1,e2,e3,e4,e5⟩:=qfB f hp
 have hM:M = []:=by
  rcases e5 with ⟨x,rfl,hx⟩|⟨e5,_⟩
  ·have:vo l f = true:=kC.2 ⟨x,by rw [e1];simp,hx⟩
   rw [this] at hf;cases hf
  ·exact e5
 subst hM
 rw [List.nil_append] at e1
 have hi:Jz l f = A ++ ⟨f,YX⟩ :: Z:=by
  unfold Jz
  rw [e2,e1,List.take_left,List.drop_left]
 rw [hi,Yx,List.pairwise_append]
 rw [e1,List.pairwise_append] at hp
 refine ⟨hp.1,List.pairwise_cons.2 ⟨fun z hz=>e4 z hz,hp.2.1⟩,fun a ha b hb=>?_⟩
 rcases List.mem_cons.1 hb with rfl|hb
 ·exact e3 a ha
 ·exact hp.2.2 a ha b hb
def mineK (u:Upl) (who:qC) (number now:Int):Nat:=(j0 (xD who number) (qz u.sess now)).toNat
def mineS (u:Upl) (who:qC) (number now:Int):Sess:=((qz u.sess now)[mineK u who number now]?).getD zeroSess
def wq (u:Upl) (who:qC) (size now:Int):Upl × Int × Int:=if yE u who size now = 0 then (Ym u who size now,u.next,0) else (Ju,0,yE u who size now)
def qaa (u:Upl) (k:Nat) (s:Sess) (offset:Int) (text:qC) (now:Int):Upl × Int × Int :=
 if QS s offset text = 0 then ({ u with sess:=(qz u.sess now).set k (Yl s offset text (now + u.lasts)) },((Yl s offset text (now + u.lasts)).text.length:Int),0) else (Ju,0,QS s offset text)
def wC (u:Upl) (who:qC) (number offset:Int) (text:qC) (now:Int):Upl × Int × Int :=
 if jA u who number now = 0 then qaa u (mineK u who number now) (mineS u who number now) offset text now else (Ju,0,jA u who number now)
def Z2 (u:Upl) (who:qC) (number now:Int):Int × Int:=if jA u who number now = 0 then (((mineS u who number now).text.length:Int),0) else (0,jA u who number now)
def zq (u:Upl) (who:qC) (number now:Int):Upl × qC × Int :=
 if jA u who number now = 0 then (if (mineS u who number now).text.length < (mineS u who number now).size then (Ju,[],4) else (qgQ u now (mineK u who number now),(mineS u who number now).text,0)) else (Ju,[],jA u who number now)
def zv (l:List Gra) (f b w:qC) (r:Int):List Gra × Int:=if jD l f b w r = 0 then (zy (va l f w r) f,yh (va l f w r) f) else ([],jD l f b w r)
def Yi (h:Hub) (x:Upl × Int × Int):Hub × Ans:=if x.2.2 = 0 then ({ h with ups:=x.1 },⟨0,x.2.1,wu⟩) else (h,Qy x.2.2)
def XB (h:Hub) (r:Rqt) (u:Upl) (l:List Chg):Hub × Ans :=
 match kY h.fols r.folder with
 | none=>(h,Xh)
 | some j=>if (xU j r.key l).2.2 = 0 then ({ h with fols:=QQ h.fols r.folder (xU j r.key l).1,ups:=u },⟨0,(xU j r.key l).2.1,wu⟩) else (h,Qy (xU j r.key l).2.2)
def wD (h:Hub) (r:Rqt):Hub × Ans :=
 if j3 h.gras r.folder r.who = 0 then (if h.fols.length = 8 then (h,Qy 2) else ({ h with fols:=Jz h.fols r.folder,gras:=va h.gras r.folder r.who 3 },Xh)) else (h,Qy (j3 h.gras r.folder r.who))
def Xq (h:Hub) (r:Rqt):Hub × Ans :=
 if jx h.gras r.folder r.who < 1 then (h,Qy 9)
 else if (zv h.gras r.folder r.who r.name r.number).2 = 0 then ({ h with gras:=(zv h.gras r.folder r.who r.name r.number).1 },Xh) else (h,Qy (zv h.gras r.folder r.who r.name r.number).2)
def YZ (h:Hub) (r:Rqt):Hub × Ans :=
 if jx h.gras r.folder r.who < 1 then (h,Qy 9) else
 match kY h.fols r.folder with
 | none=>(h,Xh)
 | some j=>if (QA j r.number 10).2 = 0 then (h,⟨0,0,(QA j r.number 10).1⟩) else (h,Qy (QA j r.number 10).2)
def qbA (h:Hub) (r:Rqt):Hub × Ans:=if (Z2 h.ups r.who r.number h.now).2 = 0 then (h,⟨0,(Z2 h.ups r.who r.number h.now).1,wu⟩) else (h,Qy (Z2 h.ups r.who r.number h.now).2)
def qbD (h:Hub) (r:Rqt):Hub × Ans :=
 if (zq h.ups r.who r.number h.now).2.2 = 0 then XB h r (zq h.ups r.who r.number h.now).1 [⟨2,r.name,[],(zq h.ups r.who r.number h.now).2.1,r.base⟩] else (h,Qy (zq h.ups r.who r.number h.now).2.2)
def Z3 (h:Hub) (r:Rqt):Hub × Ans:=if jx h.gras r.folder r.who < 2 then (h,Qy 9) else if r.kind = 7 then qbD h r else XB h r h.ups r.chs
def vG (h:Hub) (r:Rqt):Hub × Ans :=
 if ¬ (1 ≤ r.kind ∧ r.kind ≤ 8) then (h,Qy 7)
 else if ql r.who = false then (h,Qy 1)
 else if r.kind = 8 then wD h r
 else if r.kind = 3 then Xq h r
 else if r.kind = 2 then YZ h r
 else if r.kind = 4 then Yi h (wq h.ups r.who r.number h.now)
 else if r.kind = 5 then Yi h (wC h.ups r.who r.number r.offset r.text h.now)
 else if r.kind = 6 then qbA h r
 else Z3 h r
def Zw (h:Hub) (r:Rqt):Hub × Ans × Int:=if xR h = 0 then ((vG h r).1,(vG h r).2,0) else (qa1,Xh,xR h)
end Go.Proofs.YtiljlcgmcmjcoaaGreatDoor
set_option linter.unusedSimpArgs false
set_option linter.unusedVariables false
namespace Go.Proofs.YtiljlcgmcmjcoaaGreatDoor
open Go.Ab Go.RowKit
def XO (l:List Sess):AV := .sl false (l.map Sess.row)
def Fol.row (s:Fol):List AV:=[.v (str s.name),qr s.jou.base,.v (.int .i64 s.jou.first),kg s.jou.coms]
def w6 (l:List Fol):AV := .sl false (l.map Fol.row)
def Hub.row (h:Hub):List AV:=[w6 h.fols,q9 h.gras,.sl false (h.ups.sess.map Sess.row),.v (.int .i64 h.ups.next),.v (.int .i64 h.ups.lasts),.v (.int .i64 h.ups.room),.v (.int .i64 h.now)]
def xy (h:Hub):AV := .agg h.row
def Ans.row (a:Ans):List AV:=[.v (.int .i64 a.err),.v (.int .i64 a.num),.v (.bool a.page.reset),qr a.page.tree,kg a.page.coms,.v (.int .i64 a.page.cur),.v (.bool a.page.more)]
def Jj (a:Ans):AV := .agg a.row
structure Fol.small (s:Fol):Prop where
 name:s.name.length ≤ 1000000000
 jou:JBig s.jou
structure FBig (l:List Fol):Prop where
 each : ∀ s,s ∈ l → s.small
 len:l.length ≤ 1000000000
structure SBig (l:List Sess):Prop where
 each : ∀ s,s ∈ l → s.small
 len:l.length ≤ 1000000000
structure HBig (h:Hub):Prop where
 fols:FBig h.fols
 gras:GBig h.gras
 sess:SBig h.ups.sess
structure RBig (r:Rqt):Prop where
 who:r.who.length ≤ 1000000000
 folder:r.folder.length ≤ 1000000000
 name:r.name.length ≤ 1000000000
 key:r.key.length ≤ 1000000000
 text:r.text.length ≤ 1000000000
 chs:CBig r.chs
theorem HBig.ups {h:Hub} (hb:HBig h):UBig h.ups:=⟨fun s hs=>Nat.le_trans (hb.sess.each s hs).1 (by decide),fun s hs=>(hb.sess.each s hs).2,Nat.le_trans hb.sess.len (by decide)⟩
theorem jC {n:Nat} (h:n ≤ 1000000000):n ≤ 140737488355328:=Nat.le_trans h (by decide)
theorem qhF {n:Nat} {xs:List AV} (h:kp C.tab 1000000000 n 88 xs) : ∃ s:Gra,xs = s.row ∧ s.small:=by
 cases n with
 | zero=>exact h.elim
 | succ n =>
   obtain ⟨_,_,rfl,h0,_,_,rfl,h1,_,_,rfl,h2,rfl⟩:=(show wv C.tab 0 _ = some _ → X3 (kp C.tab 1000000000 n) [(0,9),(1,9),(2,3)] xs from h) rfl
   obtain ⟨a0,rfl,l0⟩:=vO h0
   obtain ⟨a1,rfl,l1⟩:=vO h1
   obtain ⟨a2,rfl,_⟩:=vu h2
   exact ⟨⟨a0,a1,a2⟩,rfl,jC l0,jC l1⟩
theorem qem {n:Nat} {xs:List AV} (h:kp C.tab 1000000000 n 23 xs) : ∃ t:List Gra,xs = [q9 t] ∧ GBig t:=by
 cases n with
 | zero=>exact h.elim
 | succ n =>
   obtain ⟨rows,he,hb,hr⟩:=(show (3:Nat) ≠ 0 → ∃ rows,xs = [AV.sl false rows] ∧ rows.length * 40 ≤ 1000000000 ∧ ∀ row,row ∈ rows → kp C.tab 1000000000 n 88 row from h) (by decide)
   obtain ⟨l,rfl,hl⟩:=w8 (f:=Gra.row) (ok:=Gra.small) (fun row hrow=>qhF (hr row hrow))
   refine ⟨l,he,hl,?_⟩
   simp at hb;omega
theorem qfu {n:Nat} {xs:List AV} (h:kp C.tab 1000000000 n 78 xs) : ∃ s:Sess,xs = s.row ∧ s.small:=by
 cases n with
 | zero=>exact h.elim
 | succ n =>
   obtain ⟨_,_,rfl,h0,_,_,rfl,h1,_,_,rfl,h2,_,_,rfl,h3,_,_,rfl,h4,rfl⟩:=(show wv C.tab 0 _ = some _ → X3 (kp C.tab 1000000000 n) [(0,3),(1,9),(2,9),(3,3),(4,3)] xs from h) rfl
   obtain ⟨a0,rfl,_⟩:=vu h0
   obtain ⟨a1,rfl,l1⟩:=vO h1
   obtain ⟨a2,rfl,l2⟩:=vO h2
   obtain ⟨a3,rfl,_⟩:=vu h3
   obtain ⟨a4,rfl,_⟩:=vu h4
   exact ⟨⟨a0,a1,a2,a3,a4⟩,rfl,jC l1,jC l2⟩
theorem qeu {n:Nat} {xs:List AV} (h:kp C.tab 1000000000 n 24 xs) : ∃ t,xs = [XO t] ∧ SBig t:=by
 cases n with
 | zero=>exact h.elim
 | succ n =>
   obtain ⟨rows,he,hb,hr⟩:=(show (5:Nat) ≠ 0 → ∃ rows,xs = [AV.sl false rows] ∧ rows.length * 56 ≤ 1000000000 ∧ ∀ row,row ∈ rows → kp C.tab 1000000000 n 78 row from h) (by decide)
   obtain ⟨l,rfl,hl⟩:=w8 (f:=Sess.row) (ok:=Sess.small) (fun row hrow=>qfu (hr row hrow))
   refine ⟨l,he,hl,?_⟩
   simp at hb;omega
theorem qh2 {n:Nat} {xs:List AV} (h:kp C.tab 1000000000 n 62 xs) : ∃ s:Fol,xs = s.row ∧ s.small:=by
 cases n with
 | zero=>exact h.elim
 | succ n =>
   obtain ⟨_,_,rfl,h0,_,_,rfl,h1,rfl⟩:=(show wv C.tab 0 _ = some _ → X3 (kp C.tab 1000000000 n) [(0,9),(1,60)] xs from h) rfl
   obtain ⟨a0,rfl,l0⟩:=vO h0
   obtain ⟨a1,rfl,l1⟩:=qhh h1
   exact ⟨⟨a0,a1⟩,rfl,l0,l1⟩
theorem qfO {n:Nat} {xs:List AV} (h:kp C.tab 1000000000 n 22 xs) : ∃ t,xs = [w6 t] ∧ FBig t:=by
 cases n with
 | zero=>exact h.elim
 | succ n =>
   obtain ⟨rows,he,hb,hr⟩:=(show (4:Nat) ≠ 0 → ∃ rows,xs = [AV.sl false rows] ∧ rows.length * 72 ≤ 1000000000 ∧ ∀ row,row ∈ rows → kp C.tab 1000000000 n 62 row from h) (by decide)
   obtain ⟨l,rfl,hl⟩:=w8 (f:=Fol.row) (ok:=Fol.small) (fun row hrow=>qh2 (hr row hrow))
   refine ⟨l,he,hl,?_⟩
   simp at hb;omega
theorem qha {n:Nat} {xs:List AV} (h:kp C.tab 1000000000 n 26 xs) : ∃ u:Upl,xs = u.row ∧ SBig u.sess:=by
 cases n with
 | zero=>exact h.elim
 | succ n =>
   obtain ⟨_,_,rfl,h0,_,_,rfl,h1,_,_,rfl,h2,_,_,rfl,h3,rfl⟩:=(show wv C.tab 0 _ = some _ → X3 (kp C.tab 1000000000 n) [(0,24),(1,3),(2,3),(3,3)] xs from h) rfl
   obtain ⟨a0,rfl,l0⟩:=qeu h0
   obtain ⟨a1,rfl,_⟩:=vu h1
   obtain ⟨a2,rfl,_⟩:=vu h2
   obtain ⟨a3,rfl,_⟩:=vu h3
   exact ⟨⟨a0,a1,a2,a3⟩,rfl,l0⟩
theorem qhC {n:Nat} {xs:List AV} (h:kp C.tab 1000000000 n 28 xs) : ∃ h:Hub,xs = h.row ∧ HBig h:=by
 cases n with
 | zero=>exact h.elim
 | succ n =>
   obtain ⟨_,_,rfl,h0,_,_,rfl,h1,_,_,rfl,h2,_,_,rfl,h3,rfl⟩:=(show wv C.tab 0 _ = some _ → X3 (kp C.tab 1000000000 n) [(0,22),(1,23),(2,26),(6,3)] xs from h) rfl
   obtain ⟨a0,rfl,l0⟩:=qfO h0
   obtain ⟨a1,rfl,l1⟩:=qem h1
   obtain ⟨a2,rfl,l2⟩:=qha h2
   obtain ⟨a3,rfl,_⟩:=vu h3
   exact ⟨⟨a0,a1,a2,a3⟩,rfl,l0,l1,l2⟩
theorem qhN {y:AV} (h:qcI C.tab 1000000000 28 y) : ∃ c,y = .agg (Hub.row c) ∧ HBig c:=by
 obtain ⟨n,xs,rfl,h2⟩:=(show ∃ n xs,y = .agg xs ∧ kp C.tab 1000000000 n 28 xs from h)
 obtain ⟨c,rfl,hc⟩:=qhC h2
 exact ⟨c,rfl,hc⟩
theorem qhL {n:Nat} {xs:List AV} (h:kp C.tab 1000000000 n 40 xs) : ∃ r:Rqt,xs = r.row ∧ RBig r:=by
 cases n with
 | zero=>exact h.elim
 | succ n =>
   obtain ⟨_,_,rfl,h0,_,_,rfl,h1,_,_,rfl,h2,_,_,rfl,h3,_,_,rfl,h4,_,_,rfl,h5,_,_,rfl,h6,_,_,rfl,h7,_,_,rfl,h8,_,_,rfl,h9,rfl⟩:=(show wv C.tab 0 _ = some _ → X3 (kp C.tab 1000000000 n) [(0,3),(1,9),(2,9),(3,9),(4,9),(5,9),(6,3),(7,3),(8,3),(9,38)] xs from h) rfl
   obtain ⟨a0,rfl,_⟩:=vu h0
   obtain ⟨a1,rfl,l1⟩:=vO h1
   obtain ⟨a2,rfl,l2⟩:=vO h2
   obtain ⟨a3,rfl,l3⟩:=vO h3
   obtain ⟨a4,rfl,l4⟩:=vO h4
   obtain ⟨a5,rfl,l5⟩:=vO h5
   obtain ⟨a6,rfl,_⟩:=vu h6
   obtain ⟨a7,rfl,_⟩:=vu h7
   obtain ⟨a8,rfl,_⟩:=vu h8
   obtain ⟨a9,rfl,l9⟩:=qaN h9
   exact ⟨⟨a0,a1,a2,a3,a4,a5,a6,a7,a8,a9⟩,rfl,l1,l2,l3,l4,l5,l9⟩
theorem qhp {y:AV} (h:qcI C.tab 1000000000 40 y) : ∃ c,y = .agg (Rqt.row c) ∧ RBig c:=by
 obtain ⟨n,xs,rfl,h2⟩:=(show ∃ n xs,y = .agg xs ∧ kp C.tab 1000000000 n 40 xs from h)
 obtain ⟨c,rfl,hc⟩:=qhL h2
 exact ⟨c,rfl,hc⟩
end Go.Proofs.YtiljlcgmcmjcoaaGreatDoor
set_option linter.unusedSimpArgs false
set_option linter.unnecessarySimpa false
set_option linter.unusedVariables false
namespace Go.Proofs.YtiljlcgmcmjcoaaGreatDoor
open Go.Op
theorem qcp:JRight YX:=xE.1 (by rfl)
theorem Ze {l:List Gra} {f w:qC} (h:¬ jx l f w = 0):kG l f = true:=by
 unfold jx at h
 cases hg:l.find? (sameKey ⟨f,w,0⟩) with
 | none=>rw [hg] at h;exact absurd rfl h
 | some g =>
   have h1:=List.mem_of_find?_eq_some hg
   have h2:=xK.1 (List.find?_some hg)
   exact z6.2 ⟨g,h1,h2.1⟩
theorem HRight.has {h:Hub} (hr:HRight h) {f:qC}:vo h.fols f = kG h.gras f:=by
 rw [Bool.eq_iff_iff]
 constructor
 ·intro e
  obtain ⟨s,hs,rfl⟩:=kC.1 e
  exact hr.known s hs
 ·intro e
  obtain ⟨g,hg,rfl⟩:=z6.1 e
  exact hr.told g hg
theorem Jc {j:Jou} (h:JRight j) (key:qC) (l:List Chg):xU j key l = xr j key l:=by
 unfold xr;rw [if_neg (by simp [xE.2 h])]
theorem Kv {j:Jou} (h:JRight j) {key:qC} {l:List Chg} (hz:(xU j key l).2.2 = 0):JRight (xU j key l).1:=by
 rw [Jc h] at hz ⊢
 rcases Xt (j:=j) (key:=key) (l:=l) with ⟨e,he,h1⟩|⟨_,_,⟨c,_,h1⟩|⟨_,hR,h1⟩⟩
 ·rw [h1] at hz;exact absurd hz he
 ·rw [h1];exact h
 ·rw [h1];exact hR
theorem zI {u:Upl} {who:qC} {number now:Int} (h:jA u who number now = 0):js u now = 0 ∧ ql who = true ∧ j0 (xD who number) (qz u.sess now) = (mineK u who number now:Int) ∧ (qz u.sess now)[mineK u who number now]? = some (mineS u who number now) ∧ xD who number (mineS u who number now) = true:=by
 unfold jA at h
 by_cases h1:js u now = 0
 case neg=>rw [if_neg h1] at h;exact absurd h h1
 rw [if_pos h1] at h
 by_cases h2:ql who = true
 case neg=>rw [if_neg h2] at h;omega
 rw [if_pos h2] at h
 by_cases h3:j0 (xD who number) (qz u.sess now) < 0
 ·rw [if_pos h3] at h;omega
 rcases xZ (xD who number) (qz u.sess now) with ⟨e,_⟩|⟨k,hk,e,_,e3⟩
 ·omega
 have hK:mineK u who number now = k:=by unfold mineK;rw [e];rfl
 have hS:mineS u who number now = (qz u.sess now)[k]:=by unfold mineS;rw [hK,List.getElem?_eq_getElem hk];rfl
 rw [hK,hS]
 exact ⟨h1,h2,e,List.getElem?_eq_getElem hk,e3⟩
theorem Xy {α β:Type} {f:α → β} {L:List α} {k:Nat} {s s' : α} (h:L[k]? = some s) (hf:f s' = f s):(L.set k s').map f = L.map f:=by
 obtain ⟨hk,rfl⟩:=List.getElem?_eq_some_iff.1 h
 apply List.ext_getElem
 ·simp
 ·intro i h1 h2
  rw [List.getElem_map,List.getElem_map,List.getElem_set]
  by_cases hi:k = i
  ·subst hi;rw [if_pos rfl,hf]
  ·rw [if_neg hi]
theorem qe2 (s:Sess) (offset:Int) (text:qC) (till:Int):(Yl s offset text till).number = s.number ∧ (Yl s offset text till).who = s.who ∧ (Yl s offset text till).size = s.size:=by
 unfold Yl;split<;>exact ⟨rfl,rfl,rfl⟩
theorem Yb {u:Upl} {now:Int} (h:js u now = 0):yM u = 0 ∧ qA now 0 1099511627776 = true:=by
 unfold js at h
 by_cases h1:yM u = 0
 ·rw [if_pos h1] at h
  by_cases h2:qA now 0 1099511627776 = true
  ·exact ⟨h1,h2⟩
  ·rw [if_neg h2] at h;omega
 ·rw [if_neg h1] at h;exact absurd h h1
theorem kM {n a b:Int}:qA n a b = true ↔ a ≤ n ∧ n ≤ b:=by unfold qA;simp
theorem KA {u:Upl} {now:Int} (hb:js u now = 0) {k:Nat} {s:Sess} (hs:(qz u.sess now)[k]? = some s) {offset:Int} {text:qC} (he:QS s offset text = 0):yM { u with sess:=(qz u.sess now).set k (Yl s offset text (now + u.lasts)) } = 0:=by
 obtain ⟨h1,h2⟩:=Yb hb
 obtain ⟨a,b,c,d,e⟩:=ke (Jp now h1)
 obtain ⟨w1,w2⟩:=kM.1 h2
 have hh:zH u = true:=a
 unfold zH at hh
 simp only [Bool.and_eq_true,kM] at hh
 obtain ⟨n1,n2,n3⟩:=qe2 s offset text (now + u.lasts)
 have hm:s ∈ qz u.sess now:=List.mem_of_getElem? hs
 have hnum:=Xy (f:=fun x:Sess=>x.number) hs n1
 have hof : ∀ who,j9 ((qz u.sess now).set k (Yl s offset text (now + u.lasts))) who = j9 (qz u.sess now) who:=fun who=>by
  unfold j9
  rw [Xy (f:=fun x:Sess=>if x.who = who then x.size else 0) hs (by simp only [n2,n3])]
 have hse:yj u.next (Yl s offset text (now + u.lasts)) = 0:=by
  have hc:yj u.next s = 0:=c s hm
  show yj u.next _ = 0
  unfold Yl
  by_cases hg:vW s.text offset text = true
  ·rw [if_pos hg];exact hc
  ·rw [if_neg hg]
   unfold QS at he
   rw [if_neg hg] at he
   have hlen:¬ s.size < s.text.length + text.length:=by
    intro hx
    by_cases ho:offset = s.text.length
    ·rw [if_pos ho,if_pos hx] at he;omega
    ·rw [if_neg ho] at he;omega
   unfold yj at hc ⊢
   have hw3:qA (now + u.lasts) 0 2199023255552 = true:=kM.2 (by omega)
   simp only [hw3,Bool.and_true]
   by_cases h7:(qA s.number 1 (u.next - 1) && qA s.size 0 300 && qA s.till 0 2199023255552) = true
   ·rw [if_pos h7] at hc
    simp only [Bool.and_eq_true] at h7
    rw [if_pos (by simp [h7])]
    by_cases h8:ql s.who = true
    ·rw [if_pos h8,if_neg (by simp only [List.length_append];push_cast;omega)]
    ·rw [if_neg h8] at hc;omega
   ·rw [if_neg h7] at hc;omega
 refine YT a (by show (List.set _ _ _).length ≤ 20;rw [List.length_set];exact b) (fun x hx=>?_) ?_ (fun x hx=>?_)
 ·rcases List.mem_or_eq_of_mem_set hx with h|rfl
  ·exact c x h
  ·exact hse
 ·have:=(List.pairwise_map (f:=fun x:Sess=>x.number) (R:=fun a b:Int=>a < b)).2 d
  show List.Pairwise (fun a b:Sess=>a.number < b.number) ((qz u.sess now).set k _)
  rw [← List.pairwise_map (f:=fun x:Sess=>x.number) (R:=fun a b:Int=>a < b),hnum]
  exact this
 ·show j9 ((qz u.sess now).set k _) x.who ≤ u.room
  rw [hof]
  rcases List.mem_or_eq_of_mem_set hx with h|rfl
  ·exact e x h
  ·rw [n2];exact e s hm
theorem qdm {l l' : List Sess} (who:qC) (h:l'.Sublist l) (h0 : ∀ s,s ∈ l → 0 ≤ s.size):j9 l' who ≤ j9 l who:=by
 induction h with
 | slnil=>exact Int.le_refl _
 | cons a _ ih =>
   rw [wi]
   have:=ih fun s hs=>h0 s (List.mem_cons_of_mem _ hs)
   have:=h0 a (List.mem_cons_self ..)
   split<;>omega
 | cons_cons a _ ih =>
   rw [wi,wi]
   have:=ih fun s hs=>h0 s (List.mem_cons_of_mem _ hs)
   omega
theorem Kw {u:Upl} {now:Int} (hb:js u now = 0) (k:Nat):yM (qgQ u now k) = 0:=by
 obtain ⟨h1,h2⟩:=Yb hb
 obtain ⟨a,b,c,d,e⟩:=ke (Jp now h1)
 have hsub:((qz u.sess now).eraseIdx k).Sublist (qz u.sess now):=List.eraseIdx_sublist _ _
 refine YT a (Nat.le_trans hsub.length_le b) (fun x hx=>c x (hsub.subset hx)) (List.Pairwise.sublist hsub d) (fun x hx=>?_)
 have:=qdm x.who hsub fun s hs=>(zh (c s hs)).1
 have:=e x (hsub.subset hx)
 show j9 ((qz u.sess now).eraseIdx k) x.who ≤ u.room
 have h3:(yD u now).room = u.room:=rfl
 have h4:(yD u now).sess = qz u.sess now:=rfl
 rw [h3,h4] at this
 omega
structure Serves (h:Hub) (x:Hub × Ans):Prop where
 right:HRight x.1
 same:¬ x.2.err = 0 → x = (h,Qy x.2.err)
theorem xC {h:Hub} (hr:HRight h) (e:Int):Serves h (h,Qy e):=⟨hr,fun _=>rfl⟩
theorem zZ {h h' : Hub} {a:Ans} (hr:HRight h') (ha:a.err = 0):Serves h (h',a):=⟨hr,fun e=>absurd ha e⟩
theorem HRight.setUps {h:Hub} (hr:HRight h) {u:Upl} (hu:yM u = 0):HRight { h with ups:=u }:=⟨hr.now,hr.len,hr.each,hr.rise,hr.gra,hr.told,hr.known,hu⟩
theorem Zz {h:Hub} (hr:HRight h) {x:Upl × Int × Int} (hx:x.2.2 = 0 → yM x.1 = 0):Serves h (Yi h x):=by
 unfold Yi
 by_cases h0:x.2.2 = 0
 ·rw [if_pos h0];exact zZ (hr.setUps (hx h0)) rfl
 ·rw [if_neg h0];exact xC hr _
theorem qcV {u:Upl} {who:qC} {size now:Int} (h:(wq u who size now).2.2 = 0):yM (wq u who size now).1 = 0:=by
 unfold wq at h ⊢
 by_cases h0:yE u who size now = 0
 ·rw [if_pos h0];exact qbv h0
 ·rw [if_neg h0] at h;exact absurd h h0
theorem qcM {u:Upl} {who:qC} {number offset:Int} {text:qC} {now:Int} (h:(wC u who number offset text now).2.2 = 0):yM (wC u who number offset text now).1 = 0:=by
 unfold wC at h ⊢
 by_cases h0:jA u who number now = 0
 ·rw [if_pos h0] at h ⊢
  obtain ⟨m1,m2,m3,m4,m5⟩:=zI h0
  unfold qaa at h ⊢
  by_cases h1:QS (mineS u who number now) offset text = 0
  ·rw [if_pos h1];exact KA m1 m4 h1
  ·rw [if_neg h1] at h;exact absurd h h1
 ·rw [if_neg h0] at h;exact absurd h h0
theorem qdf {u:Upl} {who:qC} {number now:Int} (h:(zq u who number now).2.2 = 0):yM (zq u who number now).1 = 0:=by
 unfold zq at h ⊢
 by_cases h0:jA u who number now = 0
 ·rw [if_pos h0] at h ⊢
  by_cases h1:(mineS u who number now).text.length < (mineS u who number now).size
  ·rw [if_pos h1] at h;exact absurd h (by decide)
  ·rw [if_neg h1];exact Kw (zI h0).1 _
 ·rw [if_neg h0] at h;exact absurd h h0
theorem V9 {h:Hub} (hr:HRight h) {r:Rqt} {u:Upl} {l:List Chg} (hu:yM u = 0):Serves h (XB h r u l):=by
 unfold XB
 cases hj:kY h.fols r.folder with
 | none=>exact zZ hr rfl
 | some j =>
   obtain ⟨hm,hh⟩:=YQ hj
   have hJ:JRight j:=(hr.each _ hm).2
   dsimp only
   by_cases h0:(xU j r.key l).2.2 = 0
   ·rw [if_pos h0]
    refine zZ ⟨hr.now,by show (QQ _ _ _).length ≤ 8;unfold QQ;rw [List.length_map];exact hr.len,fun s hs=>?_,by rw [qbn];exact hr.rise,hr.gra,fun g hg=>by show vo (QQ _ _ _) _ = true;rw [qf2];exact hr.told g hg,fun s hs=>?_,hu⟩ rfl
    ·rcases Z8 hs with ⟨rfl,_⟩|⟨hs,_⟩
     ·exact ⟨(hr.each _ hm).1,Kv hJ h0⟩
     ·exact hr.each s hs
    ·rcases Z8 hs with ⟨rfl,_⟩|⟨hs,_⟩
     ·exact hr.known ⟨r.folder,j⟩ hm
     ·exact hr.known s hs
   ·rw [if_neg h0];exact xC hr _
theorem qdo {h:Hub} (hr:HRight h) (r:Rqt):Serves h (qbD h r):=by
 unfold qbD
 by_cases h0:(zq h.ups r.who r.number h.now).2.2 = 0
 ·rw [if_pos h0];exact V9 hr (qdf h0)
 ·rw [if_neg h0];exact xC hr _
theorem qby {h:Hub} (hr:HRight h) (r:Rqt):Serves h (YZ h r):=by
 unfold YZ
 split
 ·exact xC hr _
 ·split
  ·exact zZ hr rfl
  ·split
   ·exact zZ hr rfl
   ·exact xC hr _
theorem qgy {l:List Gra} {f w:qC} {r:Int} (hs:qv jv l = true) (hr:¬ r = 0) : ∃ g,g ∈ va l f w r ∧ g.folder = f ∧ g.right = r:=by
 have h1:=qca (l:=l) (f:=f) (w:=w) (r:=r) hs
 unfold jx at h1
 cases hg:(va l f w r).find? (sameKey ⟨f,w,0⟩) with
 | none=>rw [hg] at h1;exact absurd h1.symm hr
 | some g =>
   rw [hg] at h1
   exact ⟨g,List.mem_of_find?_eq_some hg,(xK.1 (List.find?_some hg)).1,h1⟩
theorem Wb {l:List Gra} {f w g:qC} {r:Int} (hs:qv jv l = true) (h:kG l g = true) (hg:¬ g = f):kG (va l f w r) g = true:=by
 obtain ⟨x,hx,rfl⟩:=z6.1 h
 exact z6.2 ⟨x,qbx hs hx (by rw [Bool.eq_false_iff];intro e;exact hg (xK.1 e).1),rfl⟩
theorem VI {l:List Gra} {f w:qC} (h:j3 l f w = 0):jH l = 0 ∧ ql f = true ∧ ql w = true ∧ kG l f = false ∧ ¬ l.length = 60:=by
 unfold j3 at h
 by_cases h1:jH l = 0
 case neg=>rw [if_neg h1] at h;exact absurd h h1
 rw [if_pos h1] at h
 by_cases h2:(ql f && ql w) = true
 case neg=>rw [if_neg h2] at h;omega
 rw [if_pos h2] at h
 by_cases h3:l.any (vg f) = true
 ·rw [if_pos h3] at h;omega
 rw [if_neg h3] at h
 by_cases h4:l.length = 60
 ·rw [if_pos h4] at h;omega
 rw [Bool.and_eq_true] at h2
 refine ⟨h1,h2.1,h2.2,?_,h4⟩
 have:l.any (vg f) = false:=by simpa using h3
 exact this
theorem WY {h:Hub} (hr:HRight h) {r:Rqt} (h0:j3 h.gras r.folder r.who = 0) (h8:¬ h.fols.length = 8):HRight { h with fols:=Jz h.fols r.folder,gras:=va h.gras r.folder r.who 3 }:=by
 obtain ⟨g1,g2,g3,g4,g5⟩:=VI h0
 obtain ⟨a1,a2,a3,a4⟩:=yZ g1
 have hf:vo h.fols r.folder = false:=by rw [hr.has];exact g4
 obtain ⟨x,hx,hxf,hxr⟩:=qgy (f:=r.folder) (w:=r.who) (r:=3) a3 (by decide)
 have hlen:=hr.len
 refine ⟨hr.now,by show (Jz _ _).length ≤ 8;rw [Y5];omega,fun s hs=>?_,qbE hr.rise hf,Ki g1 g2 g3 (by decide) (List.any_eq_true.2 ⟨x,hx,XV.2 ⟨hxf,hxr⟩⟩) ?_,fun g hg=>?_,fun s hs=>?_,hr.ups⟩
 ·rcases QH.1 hs with rfl|hs
  ·exact ⟨g2,qcp⟩
  ·exact hr.each s hs
 ·have:=Kq (l:=h.gras) (f:=r.folder) (w:=r.who) (r:=3);omega
 ·rcases JW a3 hg with hg|⟨_,rfl⟩
  ·exact qbG.2 (.inr (hr.told g hg))
  ·exact qbG.2 (.inl rfl)
 ·rcases QH.1 hs with rfl|hs
  ·exact z6.2 ⟨x,hx,hxf⟩
  ·refine Wb a3 (hr.known s hs) fun e=>?_
   rw [kC.2 ⟨s,hs,e⟩] at hf;cases hf
theorem Kz {h:Hub} (hr:HRight h) (r:Rqt):Serves h (wD h r):=by
 unfold wD
 by_cases h0:j3 h.gras r.folder r.who = 0
 ·rw [if_pos h0]
  by_cases h8:h.fols.length = 8
  ·rw [if_pos h8];exact xC hr _
  ·rw [if_neg h8];exact zZ (WY hr h0 h8) rfl
 ·rw [if_neg h0];exact xC hr _
theorem qeS {l:List Gra} {f b w:qC} {r:Int} (h:jD l f b w r = 0):jH l = 0 ∧ ql f = true ∧ ql b = true ∧ ql w = true ∧ 0 ≤ r ∧ r ≤ 3:=by
 unfold jD at h
 by_cases h1:jH l = 0
 case neg=>rw [if_neg h1] at h;exact absurd h h1
 rw [if_pos h1] at h
 by_cases h2:(ql f && (ql b && ql w)) = true
 case neg=>rw [if_neg h2] at h;omega
 rw [if_pos h2] at h
 by_cases h3:qA r 0 3 = true
 case neg=>rw [if_neg h3] at h;omega
 simp only [Bool.and_eq_true] at h2
 obtain ⟨w1,w2⟩:=kM.1 h3
 exact ⟨h1,h2.1,h2.2.1,h2.2.2,w1,w2⟩
theorem Wk {L:List Gra} {f:qC} (h:yh L f = 0):L.any (wl f) = true ∧ L.length ≤ 60 ∧ zy L f = L:=by
 have hl:zy L f = L:=by unfold zy;rw [if_pos h]
 unfold yh at h
 by_cases h1:L.any (wl f) = true
 ·rw [if_pos h1] at h
  by_cases h2:60 < L.length
  ·rw [if_pos h2] at h;omega
  ·exact ⟨h1,by omega,hl⟩
 ·rw [if_neg h1] at h;omega
theorem KO {l:List Gra} {f b w:qC} {r:Int} (h:(zv l f b w r).2 = 0):jD l f b w r = 0 ∧ yh (va l f w r) f = 0 ∧ (zv l f b w r).1 = va l f w r:=by
 unfold zv at h ⊢
 by_cases h1:jD l f b w r = 0
 ·rw [if_pos h1] at h ⊢
  exact ⟨h1,h,(Wk h).2.2⟩
 ·rw [if_neg h1] at h;exact absurd h h1
theorem qcC {h:Hub} (hr:HRight h) {r:Rqt} (h1:¬ jx h.gras r.folder r.who < 1) (h0:(zv h.gras r.folder r.who r.name r.number).2 = 0):HRight { h with gras:=(zv h.gras r.folder r.who r.name r.number).1 }:=by
 obtain ⟨e1,e2,e3⟩:=KO h0
 obtain ⟨g1,g2,g3,g4,g5,g6⟩:=qeS e1
 obtain ⟨k1,k2,_⟩:=Wk e2
 obtain ⟨a1,a2,a3,a4⟩:=yZ g1
 rw [e3]
 have hf:vo h.fols r.folder = true:=by rw [hr.has];exact Ze (w:=r.who) (by omega)
 refine ⟨hr.now,hr.len,hr.each,hr.rise,Ki g1 g2 g4 ⟨g5,g6⟩ k1 k2,fun g hg=>?_,fun s hs=>?_,hr.ups⟩
 ·rcases JW a3 hg with hg|⟨_,rfl⟩
  ·exact hr.told g hg
  ·exact hf
 ·by_cases he:s.name = r.folder
  ·obtain ⟨x,hx,hxo⟩:=List.any_eq_true.1 k1
   exact z6.2 ⟨x,hx,by rw [he];exact (XV.1 hxo).1⟩
  ·exact Wb a3 (hr.known s hs) he
theorem qbk {h:Hub} (hr:HRight h) (r:Rqt):Serves h (Xq h r):=by
 unfold Xq
 by_cases h1:jx h.gras r.folder r.who < 1
 ·rw [if_pos h1];exact xC hr _
 ·rw [if_neg h1]
  by_cases h0:(zv h.gras r.folder r.who r.name r.number).2 = 0
  ·rw [if_pos h0];exact zZ (qcC hr h1 h0) rfl
  ·rw [if_neg h0];exact xC hr _
theorem Js {h:Hub} (hr:HRight h) (r:Rqt):Serves h (vG h r):=by
 unfold vG
 split
 ·exact xC hr _
 split
 ·exact xC hr _
 split
 ·exact Kz hr r
 split
 ·exact qbk hr r
 split
 ·exact qby hr r
 split
 ·exact Zz hr qcV
 split
 ·exact Zz hr qcM
 split
 ·unfold qbA
  split
  ·exact zZ hr rfl
  ·exact xC hr _
 ·unfold Z3
  split
  ·exact xC hr _
  split
  ·exact qdo hr r
  ·exact V9 hr hr.ups
end Go.Proofs.YtiljlcgmcmjcoaaGreatDoor
set_option linter.unusedSimpArgs false
set_option linter.unnecessarySimpa false
set_option linter.unusedVariables false
namespace Go.Proofs.YtiljlcgmcmjcoaaGreatDoor
open Go.Op
structure SameView (h x:Hub) (f:qC):Prop where
 jou:kY x.fols f = kY h.fols f
 right : ∀ w,jx x.gras f w = jx h.gras f w
def qib (h:Hub) (f:qC):List Ent × Int:=match kY h.fols f with|none=>([],5)|some j=>(vc j,0)
def qdR (h:Hub) (f:qC):List Ent × Int:=if xR h = 0 then qib h f else ([],xR h)
end Go.Proofs.YtiljlcgmcmjcoaaGreatDoor
set_option linter.unusedSimpArgs false
set_option linter.unnecessarySimpa false
set_option linter.unusedVariables false
set_option maxHeartbeats 1000000
namespace Go.Proofs.YtiljlcgmcmjcoaaGreatDoor
open Go.Ab Go.RowKit
open Go.Op (bytesLess)
set_option maxRecDepth 10000
attribute [local irreducible] Awp ye ji qQ Red qF Go.Ab.Fin qo Rz xx qG qO ResOk jK je jX qW
def atF (p:qC) (x:Fol):Bool:=decide (x.name = p)
theorem QY {t:List Fol} (h:qv y9 t = true) : ∀ (j k:Nat) (hj:j < t.length) (hk:k < t.length),j < k → bytesLess t[j].name t[k].name = true:=by
 intro j k hj hk hjk
 induction k with
 | zero=>omega
 | succ k ih =>
   have h1:bytesLess t[k].name t[k + 1].name = true:=yf.1 h k hk
   by_cases e:j = k
   ·subst e;exact h1
   ·exact vT (ih (by omega) (by omega)) h1
theorem V6 {p:qC} : ∀ {t:List Fol} {k:Nat},k ≤ t.length → (∀ (j:Nat) (h:j < t.length),j < k → bytesLess t[j].name p = true) → (∀ (h:k < t.length),bytesLess t[k].name p = false) → vD t p = k
 | [],k,hk,_,_=>by simp at hk;simp [vD,hk]
 | x :: l,0,hk,_,h2=>by
   have:=h2 (by simp)
   simp only [List.getElem_cons_zero] at this
   simp [vD,List.takeWhile_cons,this]
 | x :: l,k + 1,hk,h1,h2=>by
   have hx:bytesLess x.name p = true:=h1 0 (by simp) (by omega)
   have:=V6 (t:=l) (k:=k) (by simpa using hk) (fun j h hj=>h1 (j + 1) (by simpa using h) (by omega)) (fun h=>h2 (by simpa using h))
   simp only [vD] at this
   simp [vD,List.takeWhile_cons,hx,this]
theorem qdH {t:List Fol} {p:qC} (hs:qv y9 t = true) {k:Nat} (hk:k < t.length) (he:t[k].name = p):vD t p = k:=by
 refine V6 (by omega) (fun j hj hjk=>?_) (fun _=>?_)
 ·rw [← he];exact QY hs j k hj hk hjk
 ·rw [← he];exact xp _
theorem qbP {t:List Fol} {p:qC} (hs:qv y9 t = true):vo t p = (match t[vD t p]? with|some x=>decide (zm x.name p = 0)|none=>false):=by
 rcases xZ (atF p) t with ⟨_,h2⟩|⟨k,hk,_,_,h3⟩
 ·have:vo t p = false:=List.any_eq_false.2 (fun x hx=>by have:=h2 x hx;simpa [atF] using this)
  rw [this]
  split
  ·rename_i x hx
   have hm:=List.mem_of_getElem? hx
   have:=h2 x hm
   rw [eq_comm,decide_eq_false_iff_not,xG]
   simpa [atF] using this
  ·rfl
 ·have he:t[k].name = p:=by simpa [atF] using h3
  have:vo t p = true:=List.any_eq_true.2 ⟨t[k],List.getElem_mem _,h3⟩
  rw [this,qdH hs hk he,List.getElem?_eq_getElem hk]
  simp [he,VR]
theorem WT {t:List Fol} {p:qC} (hs:qv y9 t = true) (h:vo t p = true) : ∃ hk:vD t p < t.length,t[vD t p].name = p ∧ t.find? (atF p) = some t[vD t p] ∧ j0 (atF p) t = vD t p:=by
 obtain ⟨x,hx,hk⟩:=List.any_eq_true.1 h
 obtain ⟨k,hkl,rfl⟩:=List.getElem_of_mem hx
 have he:t[k].name = p:=by simpa [atF] using hk
 have hp:=qdH hs hkl he
 have hbef : ∀ j (hj:j < k),atF p (t[j]'(by omega)) = false:=fun j hj=>by
  have h1:=QY hs j k (by omega) hkl hj
  have:¬ t[j].name = p:=fun e=>by rw [e,he,xp] at h1;cases h1
  simp [atF,this]
 refine ⟨by omega,by simp only [hp];exact he,?_,?_⟩
 ·simp only [hp]
  rw [List.find?_eq_some_iff_getElem]
  exact ⟨hk,k,hkl,rfl,fun j hj=>by rw [hbef j hj];rfl⟩
 ·rw [hp]
  refine zu hkl (fun x hx=>?_) hk
  obtain ⟨j,hj,rfl⟩:=List.getElem_of_mem hx
  rw [List.getElem_take]
  exact hbef j (by simp at hj;omega)
theorem qau (e:Fol) (p:qC):jO C.P 99 [.agg e.row,.v (str p)] (.v (.int .i64 (zm e.name p))):=by
 refine qa Tryz.func99 rfl _ Tryz.ntmps99 (Nat.le_of_ble_eq_true rfl) _ Tryz.results99 0 rfl rfl ?_
 repeat' (first|refine qe ?_|(first|refine xsF Tryz.func100 (Ve ..) ?_)|((first|refine xsC ?_ ?_);all_goals (intro hc;have hp:=hc;try simp at hp;try (exfalso;omega)))|refine qp ?_ ?_)
 all_goals (apply qE;rfl;rfl)
theorem qfb (l:List Fol) (p:qC) (hl:l.length ≤ 1000000000) (hs:qv y9 l = true) :
  jO C.P 98 [w6 l,.v (str p),.clo (.func 99) [] []] (.tup [.v (.int .i64 (vD l p)),.v (.bool (vo l p))]):=by
 refine qa Tryz.func98 rfl _ Tryz.ntmps98 (Nat.le_of_ble_eq_true rfl) _ Tryz.results98 0 rfl rfl ?_
 repeat' (first|refine qe ?_|fail|((first|refine qb ?_ ?_|refine qc ?_ ?_|refine xsC ?_ ?_);all_goals (intro hc;have hp:=hc;try simp at hp;try (exfalso;omega)))|refine qp ?_ ?_)
 (refine Awp.red (qg (ts:=[(0,w6 l),(1,.v (str p)),(2,.clo (.func 99) [] []),(8,.v (.int .i64 l.length)),(9,.v (.int .i64 ((0:Nat):Int))),(10,.v (.int .i64 l.length))]) ?_) ?_;((repeat (first|exact qd|refine qi ?_|refine qI ?_ ?_))))
 all_goals try (rw [List.length_map];done)
 refine qq (fun n σ => ∃ lo hi:Nat,lo ≤ hi ∧ hi ≤ l.length ∧ n = hi - lo ∧ (∀ (k:Nat) (h:k < l.length),k < lo → Op.bytesLess l[k].name p = true) ∧ (∀ (k:Nat) (h:k < l.length),hi ≤ k → Op.bytesLess l[k].name p = false) ∧ σ = ⟨[(0,w6 l),(1,.v (str p)),(2,.clo (.func 99) [] []),(8,.v (.int .i64 l.length)),(9,.v (.int .i64 ((lo:Nat):Int))),(10,.v (.int .i64 ((hi:Nat):Int)))],[],C.nh⟩) l.length ⟨0,l.length,by omega,Nat.le_refl _,rfl,fun _ _ h=>absurd h (by omega),fun _ _ h=>absurd h (by omega),rfl⟩ ?_
 rintro n σ ⟨lo,hi,hle,hhi,rfl,h1,h2,rfl⟩
 by_cases hlt:lo < hi
 ·obtain ⟨m,hm⟩ : ∃ m:Nat,m = (lo + hi) / 2:=⟨_,rfl⟩
  have hmi:((lo:Int) + (hi:Int)) / 2 = (m:Int):=by omega
  have hml:m < l.length:=by omega
  have hr:=qx (f:=Fol.row) hml
  have hr2:(l.map Fol.row)[(((lo:Int) + (hi:Int)) / 2).toNat]? = some l[m].row:=by rw [hmi];exact hr
  repeat' (first|refine qe ?_|(first|(apply qj;first|(apply XT;rfl;rfl;rfl;rfl;rfl;omega;omega;exact nle rfl)|(apply X2;rfl;rfl;rfl;rfl;rfl;omega;omega;exact nle rfl))|(apply qj;apply WS;(case hx=>rfl);(case hy=>rfl);(case hk=>decide);(case hN=>exact nle rfl))|(refine zO Tryz.func99 (qau ..) ?_))|((first|refine qb ?_ ?_|refine qc ?_ ?_|refine xsC ?_ ?_);all_goals (intro hc;have hp:=hc;try simp at hp;try (exfalso;omega)))|refine qp ?_ ?_)
  all_goals try (exfalso;omega)
  ·have hmg:Op.bytesLess l[m].name p = true:=(kR _ _).1 hp
   refine ⟨hi - (m + 1),_,by omega,qg (ts:=[(0,w6 l),(1,.v (str p)),(2,.clo (.func 99) [] []),(8,.v (.int .i64 l.length)),(9,.v (.int .i64 ((m + 1:Nat):Int))),(10,.v (.int .i64 ((hi:Nat):Int)))]) ?_,m + 1,hi,by omega,hhi,rfl,fun k h hk=>?_,h2,rfl⟩
   · (repeat (first|exact qd|refine qi ?_|refine qI ?_ ?_))
     all_goals (rw [hmi];rfl)
   ·by_cases e:k = m
    ·subst e;exact hmg
    ·exact vT (QY hs k m h hml (by omega)) hmg
  ·have hmg:Op.bytesLess l[m].name p = false:=(by
    cases h:Op.bytesLess l[m].name p
    ·rfl
    ·have:=(kR _ _).2 h;omega)
   refine ⟨m - lo,_,by omega,qg (ts:=[(0,w6 l),(1,.v (str p)),(2,.clo (.func 99) [] []),(8,.v (.int .i64 l.length)),(9,.v (.int .i64 ((lo:Nat):Int))),(10,.v (.int .i64 ((m:Nat):Int)))]) ?_,lo,m,by omega,by omega,rfl,h1,fun k h hk=>?_,rfl⟩
   · (repeat (first|exact qd|refine qi ?_|refine qI ?_ ?_))
     all_goals (rw [hmi])
   ·by_cases e:k = m
    ·subst e;exact hmg
    ·cases hkg:Op.bytesLess l[k].name p
     ·rfl
     ·rw [vT (QY hs m k hml h (by omega)) hkg] at hmg;cases hmg
 obtain rfl:lo = hi:=by omega
 have hpos:vD l p = lo:=V6 hhi h1 (fun h=>h2 lo h (by omega))
 by_cases hin:lo < l.length
 ·have hr:=qx (f:=Fol.row) hin
  have hhit:vo l p = decide (zm l[lo].name p = 0):=by
   rw [qbP hs,hpos,List.getElem?_eq_getElem hin]
  repeat' (first|refine qe ?_|(first|(refine zO Tryz.func99 (qau ..) ?_))|((first|refine qb ?_ ?_|refine qc ?_ ?_|refine xsC ?_ ?_);all_goals (intro hc;have hp:=hc;try simp at hp;try (exfalso;omega)))|refine qp ?_ ?_)
  all_goals try (exfalso;omega)
  rw [hpos,hhit]
  (exact j1 (rs:=[.tmp 6,.tmp 7]))
 ·have hhit:vo l p = false:=by
   rw [qbP hs,hpos,List.getElem?_eq_none (by omega)]
  repeat' (first|refine qe ?_|(first|(refine zO Tryz.func99 (qau ..) ?_))|((first|refine qb ?_ ?_|refine qc ?_ ?_|refine xsC ?_ ?_);all_goals (intro hc;have hp:=hc;try simp at hp;try (exfalso;omega)))|refine qp ?_ ?_)
  all_goals try (exfalso;omega)
  rw [hpos,hhit]
  (exact j1 (rs:=[.tmp 6,.tmp 7]))
theorem Xr (h:Hub) (p:qC) (hl:h.fols.length ≤ 1000000000) (hs:qv y9 h.fols = true) :
  jO C.P 58 [xy h,.v (str p)] (.tup [.v (.int .i64 (vD h.fols p)),.v (.bool (vo h.fols p))]):=by
 have hse:=qfb h.fols p hl hs
 refine qa Tryz.func58 rfl _ Tryz.ntmps58 (Nat.le_of_ble_eq_true rfl) _ Tryz.results58 0 rfl rfl ?_
 repeat' (first|refine qe ?_|(first|refine xsQ Tryz.func98 (hse ..) ?_)|((first|refine xsC ?_ ?_);all_goals (intro hc;have hp:=hc;try simp at hp;try (exfalso;omega)))|refine qp ?_ ?_)
 (exact j1 (rs:=[.tmp 4,.tmp 5]))
theorem qec {h:Hub} (hs:qv y9 h.fols = true) (ht : ∀ g,g ∈ h.gras → vo h.fols g.folder = true):decide ((XC h.gras).length = h.fols.length) = zw h:=by
 have hn:=KL hs
 have hsub:h.gras.map (·.folder) ⊆ h.fols.map Fol.name:=by
  intro s hs
  obtain ⟨g,hg,rfl⟩:=List.mem_map.1 hs
  obtain ⟨x,hx,he⟩:=kC.1 (ht g hg)
  exact List.mem_map.2 ⟨x,hx,he⟩
 have hl:(ko (h.fols.map Fol.name)).length = h.fols.length:=by
  have:=(YB (h.fols.map Fol.name) h.fols.length (by simp)).2
  rw [show (h.fols.map Fol.name).take h.fols.length = h.fols.map Fol.name from List.take_of_length_le (by simp)] at this
  exact this.2 hn
 rw [Bool.eq_iff_iff,decide_eq_true_iff,XC, ← hl,qaG hsub]
 unfold zw
 rw [Bool.and_eq_true,List.all_eq_true,List.all_eq_true]
 constructor
 ·intro h1
  refine ⟨ht,fun s hs=>?_⟩
  obtain ⟨g,hg,he⟩:=List.mem_map.1 (h1 (List.mem_map.2 ⟨s,hs,rfl⟩))
  exact z6.2 ⟨g,hg,he⟩
 ·rintro ⟨_,h1⟩ s hs
  obtain ⟨x,hx,rfl⟩:=List.mem_map.1 hs
  obtain ⟨g,hg,he⟩:=z6.1 (h1 x hx)
  exact List.mem_map.2 ⟨g,hg,he⟩
theorem qaR {h:Hub} {k:Nat} (hk:k < h.gras.length) (hn:vo h.fols h.gras[k].folder = false):zw h = false:=by
 unfold zw
 rw [Bool.and_eq_false_iff]
 left
 rw [List.all_eq_false]
 exact ⟨h.gras[k],List.getElem_mem _,by rw [hn];decide⟩
theorem qeg (h:Hub) (hl:h.fols.length ≤ 1000000) (hg:h.gras.length ≤ 1000000) (hs:qv y9 h.fols = true):jO C.P 40 [xy h] (.v (.bool (zw h))):=by
 have hml:=fun ht=>qec (h:=h) hs ht
 have hmn := @qaR h
 have hfi:=fun p=>Xr h p (by omega) hs
 obtain ⟨F,G,U,now⟩:=h
 dsimp only at *
 refine qa Tryz.func40 rfl _ Tryz.ntmps40 (Nat.le_of_ble_eq_true rfl) _ Tryz.results40 0 rfl rfl ?_
 (repeat apply jg);apply qw;(repeat' (first|apply qT|refine xi ?_|refine xe ?_|refine xl ?_|refine xN ?_|refine xj ?_|refine xb ?_|refine vb ?_|refine vl ?_|refine zb ?_|refine xX ?_|refine xn ?_|refine yG ?_|(first|fail)|refine yg ?_));show Awp _ _ _ _ _
 refine xV 1 0 ?_
 repeat' (first|refine qe ?_|(first|(apply yW;apply zr;exact nle rfl)|(apply qj;apply zE;rfl;rfl;rfl;rfl;exact nle rfl)|(apply xS;apply vw;rfl;rfl;rfl;rfl;rfl;rfl;rfl;rfl))|((first|refine xsC ?_ ?_);all_goals (intro hc;have hp:=hc;try simp at hp;try (exfalso;omega)))|refine qp ?_ ?_)
 all_goals try (exfalso;omega)
 (refine Awp.red (qY (τ:=⟨[(1,.fp [Hub.row ⟨F,G,U,now⟩] 0 0),(3,.mp 0),(10,q9 G),(11,.v (.int .i64 G.length)),(12,.v (.int .i64 ((0:Nat):Int)))],[(0,.mp (XC (G.take 0)))],1⟩) [(1,0)] rfl ?gts ?ghs) ?gmain;(case gts=>(repeat (first|exact qd|(apply wM;(case hx=>rfl);(case hp=>first|rfl|(simp [AV.pure,AV.pure.pureL, *];done)))|(apply JZ;(case hx=>rfl);(case hm=>(first|exact jj rfl|exact .inr (List.mem_cons_self ..)|exact .inr (List.mem_cons_of_mem _ (List.mem_cons_self ..))|exact .inr (List.mem_cons_of_mem _ (List.mem_cons_of_mem _ (List.mem_cons_self ..)))|exact .inr (List.mem_cons_of_mem _ (List.mem_cons_of_mem _ (List.mem_cons_of_mem _ (List.mem_cons_self ..)))))))|(apply J7;rfl;(first|exact jj rfl|exact .inr (List.mem_cons_self ..)|exact .inr (List.mem_cons_of_mem _ (List.mem_cons_self ..))|exact .inr (List.mem_cons_of_mem _ (List.mem_cons_of_mem _ (List.mem_cons_self ..)))|exact .inr (List.mem_cons_of_mem _ (List.mem_cons_of_mem _ (List.mem_cons_of_mem _ (List.mem_cons_self ..))))))|(apply Y8;(conv=>lhs;whnf);rotate_left;rfl)));all_goals (rw [List.length_map]));(case ghs=>(repeat (first|exact qf|(apply Xp;(case hm=>(first|exact jj rfl|exact .inr (List.mem_cons_self ..)|exact .inr (List.mem_cons_of_mem _ (List.mem_cons_self ..))|exact .inr (List.mem_cons_of_mem _ (List.mem_cons_of_mem _ (List.mem_cons_self ..)))|exact .inr (List.mem_cons_of_mem _ (List.mem_cons_of_mem _ (List.mem_cons_of_mem _ (List.mem_cons_self ..))))));(case hx=>rfl);(case hp=>first|assumption|exact nofun|skip);(first|(case hr=>rfl)|(case hr=>assumption)|rotate_left))))))
 refine qq (fun n σ => ∃ i:Nat,i ≤ G.length ∧ n = G.length - i ∧ (∀ g,g ∈ G.take i → vo F g.folder = true) ∧ σ = ⟨[(1,.fp [Hub.row ⟨F,G,U,now⟩] 0 0),(3,.mp 0),(10,q9 G),(11,.v (.int .i64 G.length)),(12,.v (.int .i64 (i:Int)))],[(0,.mp (XC (G.take i)))],1⟩) G.length ⟨0,Nat.zero_le _,rfl,(by simp),rfl⟩ ?_
 rintro n σ ⟨i,hi,rfl,hsofar,rfl⟩
 by_cases hlt:i < G.length
 ·have hr:=qx (f:=Gra.row) hlt
  have hp1:=Yc ((G.take (i + 1)).map (·.folder))
  have hf:=hfi G[i].folder
  have h4:=KW hlt
  cases hh:vo F G[i].folder with
  | false =>
    rw [hmn hlt hh]
    rw [hh] at hf
    clear hml hmn hfi
    repeat' (first|refine qe ?_|(first|(apply yW;apply zr;exact nle rfl)|(apply qj;apply zE;rfl;rfl;rfl;rfl;exact nle rfl)|(apply xS;apply vw;rfl;rfl;rfl;rfl;rfl;rfl;rfl;rfl)|refine xsQ Tryz.func58 (hf ..) ?_)|((first|refine xsC ?_ ?_);all_goals (intro hc;have hp:=hc;try simp at hp;try (exfalso;omega)))|refine qp ?_ ?_)
    all_goals try (exfalso;first|omega|contradiction)
    (exact j1 (rs:=[.tmp 2]))
  | true =>
    rw [hh] at hf
    clear hml hmn hfi
    repeat' (first|refine qe ?_|(first|(apply yW;apply zr;exact nle rfl)|(apply qj;apply zE;rfl;rfl;rfl;rfl;exact nle rfl)|(apply xS;apply vw;rfl;rfl;rfl;rfl;rfl;rfl;rfl;rfl)|refine xsQ Tryz.func58 (hf ..) ?_)|((first|refine xsC ?_ ?_);all_goals (intro hc;have hp:=hc;try simp at hp;try (exfalso;omega)))|refine qp ?_ ?_)
    all_goals try (exfalso;first|omega|contradiction)
    refine ⟨G.length - (i + 1),_,by omega,qY (τ:=⟨[(1,.fp [Hub.row ⟨F,G,U,now⟩] 0 0),(3,.mp 0),(10,q9 G),(11,.v (.int .i64 G.length)),(12,.v (.int .i64 ((i + 1:Nat):Int)))],[(0,.mp (XC (G.take (i + 1))))],1⟩) [(0,0)] rfl ?gts ?ghs,i + 1,by omega,rfl,qJ hlt hsofar hh,rfl⟩;(case gts=>(repeat (first|exact qd|(apply wM;(case hx=>rfl);(case hp=>first|rfl|(simp [AV.pure,AV.pure.pureL, *];done)))|(apply JZ;(case hx=>rfl);(case hm=>(first|exact jj rfl|exact .inr (List.mem_cons_self ..)|exact .inr (List.mem_cons_of_mem _ (List.mem_cons_self ..))|exact .inr (List.mem_cons_of_mem _ (List.mem_cons_of_mem _ (List.mem_cons_self ..)))|exact .inr (List.mem_cons_of_mem _ (List.mem_cons_of_mem _ (List.mem_cons_of_mem _ (List.mem_cons_self ..)))))))|(apply J7;rfl;(first|exact jj rfl|exact .inr (List.mem_cons_self ..)|exact .inr (List.mem_cons_of_mem _ (List.mem_cons_self ..))|exact .inr (List.mem_cons_of_mem _ (List.mem_cons_of_mem _ (List.mem_cons_self ..)))|exact .inr (List.mem_cons_of_mem _ (List.mem_cons_of_mem _ (List.mem_cons_of_mem _ (List.mem_cons_self ..))))))|(apply Y8;(conv=>lhs;whnf);rotate_left;rfl))));(case ghs=>(repeat (first|exact qf|(apply Xp;(case hm=>(first|exact jj rfl|exact .inr (List.mem_cons_self ..)|exact .inr (List.mem_cons_of_mem _ (List.mem_cons_self ..))|exact .inr (List.mem_cons_of_mem _ (List.mem_cons_of_mem _ (List.mem_cons_self ..)))|exact .inr (List.mem_cons_of_mem _ (List.mem_cons_of_mem _ (List.mem_cons_of_mem _ (List.mem_cons_self ..))))));(case hx=>rfl);(case hp=>first|assumption|exact nofun|skip);(first|(case hr=>rfl)|(case hr=>assumption)|rotate_left))));all_goals (first|exact h4.symm|trace_state))
 obtain rfl:i = G.length:=by omega
 rw [List.take_length] at hsofar
 rw [← hml hsofar]
 clear hml hmn hfi
 rw [List.take_length]
 generalize XC G = AM at *
 repeat' (first|refine qe ?_|(first|(apply yW;apply zr;exact nle rfl)|(apply qj;apply zE;rfl;rfl;rfl;rfl;exact nle rfl)|(apply xS;apply vw;rfl;rfl;rfl;rfl;rfl;rfl;rfl;rfl))|((first|refine xsC ?_ ?_);all_goals (intro hc;have hp:=hc;try simp at hp;try (exfalso;omega)))|refine qp ?_ ?_)
 all_goals try (exfalso;omega)
 apply jd
 rfl
 simp [Int.ofNat_inj]
end Go.Proofs.YtiljlcgmcmjcoaaGreatDoor
