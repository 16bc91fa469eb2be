import Derived.Test.YtgcncinnlmjgdaaGreatDoorMz8
import Derived.Test.YtgcncinnlmjgdaaGreatDoorMz14
import Derived.Test.YtgcncinnlmjgdaaGreatDoorMz9
import Derived.Test.YtgcncinnlmjgdaaGreatDoorMz18
import Derived.Test.YtgcncinnlmjgdaaGreatDoorMz17
set_option linter.unusedSimpArgs false
set_option linter.unnecessarySimpa false
set_option linter.unusedVariables false
set_option maxHeartbeats 1000000
set_option maxRecDepth 10000
namespace Go.Proofs.YtgcncinnlmjgdaaGreatDoor
open Go.Op
structure Fol where
 name:qb
 jou:Jou
structure Hub where
 fols:List Fol
 gras:List Gra
 ups:Upl
 now:Int
def W0:Jou:=⟨[],1,[]⟩
def qhA:Hub:=⟨[],[],Xt,0⟩
def QW (e:Int):Ans:=⟨e,0,ze⟩
def vw (s:Fol):Int:=if qj s.name = true then ki s.jou else 1
def yW (a b:Fol):Bool:=bytesLess a.name b.name
def x6 (l:List Fol) (f:qb):Bool:=l.any (fun s=>decide (s.name = f))
def Zj (l:List Gra) (f:qb):Bool:=l.any (fun g=>decide (g.folder = f))
def kI (h:Hub):Bool:=h.gras.all (fun g=>x6 h.fols g.folder) && h.fols.all (fun s=>Zj h.gras s.name)
def yE (h:Hub):Int :=
 if qq h.now 0 1099511627776 = false then 3
 else if 8 < h.fols.length then 2
 else if ¬ jp vw h.fols = 0 then jp vw h.fols
 else if ql yW h.fols = false then 4
 else if ¬ jx h.gras = 0 then jx h.gras
 else if kI h = false then 5
 else yu h.ups
structure HRight (h:Hub):Prop where
 now:qq h.now 0 1099511627776 = true
 len:h.fols.length ≤ 8
 each : ∀ s,s ∈ h.fols → qj s.name = true ∧ JRight s.jou
 rise:ql yW h.fols = true
 gra:jx h.gras = 0
 told : ∀ g,g ∈ h.gras → x6 h.fols g.folder = true
 known : ∀ s,s ∈ h.fols → Zj h.gras s.name = true
 ups:yu h.ups = 0
theorem Kn {s:Fol}:vw s = 0 ↔ qj s.name = true ∧ JRight s.jou:=by
 unfold vw;by_cases h:qj s.name = true
 ·rw [if_pos h,y0];simp [h]
 ·rw [if_neg h];simp [h]
theorem vC {h:Hub}:yE h = 0 ↔ HRight h:=by
 unfold yE;constructor
 ·intro e;by_cases h1:qq h.now 0 1099511627776 = false
  ·rw [if_pos h1] at e;omega
  rw [if_neg h1] at e;by_cases h2:8 < h.fols.length
  ·rw [if_pos h2] at e;omega
  rw [if_neg h2] at e;by_cases h3:jp vw h.fols = 0
  case neg=>rw [if_pos h3] at e;exact absurd e h3
  rw [if_neg (fun q=>q h3)] at e;by_cases h4:ql yW h.fols = false
  ·rw [if_pos h4] at e;omega
  rw [if_neg h4] at e;by_cases h5:jx h.gras = 0
  case neg=>rw [if_pos h5] at e;exact absurd e h5
  rw [if_neg (fun q=>q h5)] at e;by_cases h6:kI h = false
  ·rw [if_pos h6] at e;omega
  rw [if_neg h6] at e;have h6:kI h = true:=by simpa using h6
  unfold kI at h6;rw [Bool.and_eq_true,List.all_eq_true,List.all_eq_true] at h6;exact ⟨by simpa using h1,by omega,fun s hs=>Kn.1 (jA.1 h3 s hs),by simpa using h4,h5,h6.1,h6.2,e⟩
 ·rintro ⟨h1,h2,h3,h4,h5,h6,h7,h8⟩;have h3:jp vw h.fols = 0:=jA.2 fun s hs=>Kn.2 (h3 s hs)
  have h9:kI h = true:=by
   unfold kI;rw [Bool.and_eq_true,List.all_eq_true,List.all_eq_true];exact ⟨h6,h7⟩
  rw [if_neg (by rw [h1];decide),if_neg (by omega),if_neg (fun q=>q h3),if_neg (by rw [h4];decide),if_neg (fun q=>q h5),if_neg (by rw [h9];decide),h8]
theorem qbG {α:Type} {lt:α → α → Bool} (htr : ∀ a b c,lt a b = true → lt b c = true → lt a c = true) : ∀ {l:List α},ql lt l = true ↔ l.Pairwise (fun a b=>lt a b = true)
 | []=>by simp [ql]
 | [x]=>by simp [ql]
 | x :: y :: l=>by
   have ih:=qbG htr (l:=y :: l);rw [show ql lt (x :: y :: l) = (lt x y && ql lt (y :: l)) from rfl,Bool.and_eq_true,List.pairwise_cons, ← ih];constructor
   ·rintro ⟨h1,h2⟩;refine ⟨fun a ha=>?_,h2⟩;have h3:=(List.pairwise_cons.1 (ih.1 h2)).1;rcases List.mem_cons.1 ha with rfl|ha
    ·exact h1
    ·exact htr _ _ _ h1 (h3 a ha)
   ·rintro ⟨h1,h2⟩;exact ⟨h1 y (List.mem_cons_self ..),h2⟩
theorem X7 {l:List Fol}:ql yW l = true ↔ l.Pairwise (fun a b=>yW a b = true):=qbG (lt:=yW) fun a b c h1 h2=>vf (a:=a.name) (b:=b.name) (c:=c.name) h1 h2
theorem qbj {l:List Fol} (h:ql yW l = true):(l.map Fol.name).Nodup:=by
 rw [List.Nodup,List.pairwise_map];refine (X7.1 h).imp fun {a b} hab e=>?_
 have hab:bytesLess a.name b.name = true:=hab;rw [e,zp] at hab;cases hab
def xX (l:List Fol) (f:qb):Nat:=(l.takeWhile (fun s=>bytesLess s.name f)).length
theorem qlJ (f:qb) : ∀ {l:List Fol},l.Pairwise (fun a b=>yW a b = true) → ∃ A M Z,l = A ++ (M ++ Z) ∧ xX l f = A.length ∧ (∀ a,a ∈ A → bytesLess a.name f = true) ∧ (∀ z,z ∈ Z → bytesLess f z.name = true) ∧ ((∃ x,M = [x] ∧ x.name = f) ∨ (M = [] ∧ x6 l f = false))
 | [],_=>⟨[],[],[],rfl,rfl,nofun,nofun,.inr ⟨rfl,rfl⟩⟩
 | x :: l,h=>by
   obtain ⟨h1,h2⟩:=List.pairwise_cons.1 h
   rcases JQ x.name f with ⟨h3,h4,h5⟩|⟨h3,h4,h5⟩|⟨h3,h4,h5⟩
   ·obtain ⟨A,M,Z,e1,e2,e3,e4,e5⟩:=qlJ f h2;refine ⟨x :: A,M,Z,by rw [e1];rfl,?_,?_,e4,?_⟩
    ·unfold xX at e2 ⊢;rw [List.takeWhile_cons,if_pos h3,List.length_cons,e2,List.length_cons]
    ·intro a ha;rcases List.mem_cons.1 ha with rfl|ha
     ·exact h3
     ·exact e3 a ha
    ·rcases e5 with e5|⟨e5,e6⟩
     ·exact .inl e5
     ·refine .inr ⟨e5,?_⟩;show (decide (x.name = f) || x6 l f) = false;rw [e6,decide_eq_false h5];rfl
   ·refine ⟨[],[x],l,rfl,?_,nofun,fun z hz=>?_,.inl ⟨x,rfl,h3⟩⟩
    ·unfold xX;rw [List.takeWhile_cons,if_neg (by rw [h4];decide)]
     try rfl
    ·have h6:bytesLess x.name z.name = true:=h1 z hz;rw [h3] at h6;exact h6
   ·have h6 : ∀ z,z ∈ x :: l → bytesLess f z.name = true:=fun z hz=>by
     rcases List.mem_cons.1 hz with rfl|hz
     ·exact h3
     ·exact vf h3 (h1 z hz)
    refine ⟨[],[],x :: l,rfl,?_,nofun,h6,.inr ⟨rfl,?_⟩⟩
    ·unfold xX;rw [List.takeWhile_cons,if_neg (by rw [h4];decide)]
     try rfl
    ·refine List.any_eq_false.2 fun z hz=>?_
     have h7:=h6 z hz;simp only [decide_eq_true_eq];rintro rfl;rw [zp] at h7;cases h7
def wO (l:List Fol) (f:qb):Option Jou:=(l.find? (fun s=>decide (s.name = f))).map Fol.jou
def Y1 (l:List Fol) (f:qb) (j:Jou):List Fol:=l.map (fun s=>if s.name = f then ⟨s.name,j⟩ else s)
def XU (l:List Fol) (f:qb):List Fol:=l.take (xX l f) ++ ⟨f,W0⟩ :: l.drop (xX l f)
theorem kg {l:List Fol} {f:qb}:x6 l f = true ↔ ∃ s,s ∈ l ∧ s.name = f:=by
 unfold x6;rw [List.any_eq_true];simp
theorem zS {l:List Gra} {f:qb}:Zj l f = true ↔ ∃ g,g ∈ l ∧ g.folder = f:=by
 unfold Zj;rw [List.any_eq_true];simp
theorem qfR {l:List Fol} {f:qb}:wO l f = none ↔ x6 l f = false:=by
 unfold wO x6;rw [Option.map_eq_none_iff,List.find?_eq_none,List.any_eq_false]
theorem QF {l:List Fol} {f:qb} {j:Jou} (h:wO l f = some j):⟨f,j⟩ ∈ l ∧ x6 l f = true:=by
 unfold wO at h;obtain ⟨s,h1,rfl⟩:=Option.map_eq_some_iff.1 h;have h2:=List.find?_some h1;have h3:s.name = f:=by simpa using h2
 subst h3;exact ⟨List.mem_of_find?_eq_some h1,kg.2 ⟨s,List.mem_of_find?_eq_some h1,rfl⟩⟩
theorem qap (l:List Fol) (f:qb) (j:Jou):(Y1 l f j).map Fol.name = l.map Fol.name:=by
 unfold Y1;rw [List.map_map];apply List.map_congr_left;intro s _;show (if s.name = f then (⟨s.name,j⟩ : Fol) else s).name = s.name;split<;>rfl
theorem Zb {l:List Fol}:ql yW l = ql bytesLess (l.map Fol.name):=by
 induction l with
 | nil=>rfl
 | cons x l ih =>
   cases l with
   | nil=>rfl
   | cons y l =>
     rw [show ql yW (x :: y :: l) = (yW x y && ql yW (y :: l)) from rfl,ih];rfl
theorem qeR {l:List Fol} {f:qb} {j:Jou}:ql yW (Y1 l f j) = ql yW l:=by rw [Zb,qap, ← Zb]
theorem WN {l:List Fol} {f:qb}:x6 l f = decide (f ∈ l.map Fol.name):=by
 rw [Bool.eq_iff_iff,kg,decide_eq_true_iff,List.mem_map]
theorem qlI {l:List Fol} {f g:qb} {j:Jou}:x6 (Y1 l f j) g = x6 l g:=by rw [WN,qap, ← WN]
theorem qao {l:List Fol} {f:qb} {j:Jou} {s:Fol} (h:s ∈ Y1 l f j):(s = ⟨f,j⟩ ∧ x6 l f = true) ∨ (s ∈ l ∧ ¬ s.name = f):=by
 unfold Y1 at h;obtain ⟨x,hx,rfl⟩:=List.mem_map.1 h;by_cases he:x.name = f
 ·rw [if_pos he,he];exact .inl ⟨rfl,kg.2 ⟨x,hx,he⟩⟩
 ·rw [if_neg he];exact .inr ⟨hx,he⟩
theorem qno {l:List Fol} (h:ql yW l = true) {k:Nat} (hk:k < l.length) {f:qb} (hf:l[k].name = f) (j:Jou):Y1 l f j = l.set k ⟨f,j⟩:=by
 apply List.ext_getElem
 ·simp [Y1]
 ·intro i h1 h2;have hi:i < l.length:=by simpa [Y1] using h1
  have e:(Y1 l f j)[i] = (if l[i].name = f then (⟨l[i].name,j⟩ : Fol) else l[i]):=by simp [Y1]
  rw [List.getElem_set,e];by_cases hik:k = i
  ·subst hik;rw [if_pos rfl,if_pos hf,hf]
  ·rw [if_neg hik,if_neg];intro e;have:=(List.getElem_inj (h₀:=by simpa using hk) (h₁:=by simpa using hi) (qbj h) (i:=k) (j:=i)).1 (by rw [List.getElem_map,List.getElem_map,hf,e]);exact hik this
theorem K1 (l:List Fol) (f:qb):xX l f ≤ l.length:=(List.takeWhile_sublist _).length_le
theorem Jq {l:List Fol} {f:qb} {s:Fol}:s ∈ XU l f ↔ s = ⟨f,W0⟩ ∨ s ∈ l:=by
 unfold XU;rw [List.mem_append,List.mem_cons];have:s ∈ l ↔ s ∈ l.take (xX l f) ∨ s ∈ l.drop (xX l f):=by rw [← List.mem_append,List.take_append_drop]
 rw [this];constructor
 ·rintro (h|h|h)
  ·exact .inr (.inl h)
  ·exact .inl h
  ·exact .inr (.inr h)
 ·rintro (h|h|h)
  ·exact .inr (.inl h)
  ·exact .inl h
  ·exact .inr (.inr h)
theorem VK (l:List Fol) (f:qb):(XU l f).length = l.length + 1:=by
 unfold XU;have:=K1 l f;simp;omega
theorem qd0 {l:List Fol} {f g:qb}:x6 (XU l f) g = true ↔ g = f ∨ x6 l g = true:=by
 rw [kg,kg];constructor
 ·rintro ⟨s,hs,rfl⟩;rcases Jq.1 hs with rfl|hs
  ·exact .inl rfl
  ·exact .inr ⟨s,hs,rfl⟩
 ·rintro (rfl|⟨s,hs,rfl⟩)
  ·exact ⟨_,Jq.2 (.inl rfl),rfl⟩
  ·exact ⟨s,Jq.2 (.inr hs),rfl⟩
theorem qd1 {l:List Fol} {f:qb} (h:ql yW l = true) (hf:x6 l f = false):ql yW (XU l f) = true:=by
 have hp:=X7.1 h;obtain ⟨A,M,Z,e1,e2,e3,e4,e5⟩:=qlJ f hp
 have hM:M = []:=by
  rcases e5 with ⟨x,rfl,hx⟩|⟨e5,_⟩
  ·have:x6 l f = true:=kg.2 ⟨x,by rw [e1];simp,hx⟩;rw [this] at hf;cases hf
  ·exact e5
 subst hM;rw [List.nil_append] at e1
 have hi:XU l f = A ++ ⟨f,W0⟩ :: Z:=by
  unfold XU;rw [e2,e1,List.take_left,List.drop_left]
 rw [hi,X7,List.pairwise_append];rw [e1,List.pairwise_append] at hp;refine ⟨hp.1,List.pairwise_cons.2 ⟨fun z hz=>e4 z hz,hp.2.1⟩,fun a ha b hb=>?_⟩;rcases List.mem_cons.1 hb with rfl|hb
 ·exact e3 a ha
 ·exact hp.2.2 a ha b hb
def mineK (u:Upl) (who:qb) (number now:Int):Nat:=(yN (zu who number) (qt u.sess now)).toNat
def zd (u:Upl) (who:qb) (number now:Int):Sess:=((qt u.sess now)[mineK u who number now]?).getD zeroSess
def Ju (u:Upl) (who:qb) (size now:Int):Upl × Int × Int:=if yi u who size now = 0 then (VZ u who size now,u.next,0) else (Xt,0,yi u who size now)
def qj9 (u:Upl) (k:Nat) (s:Sess) (offset:Int) (text:qb) (now:Int):Upl × Int × Int :=
 if Jg s offset text = 0 then ({ u with sess:=(qt u.sess now).set k (Xs s offset text (now + u.lasts)) },((Xs s offset text (now + u.lasts)).text.length:Int),0) else (Xt,0,Jg s offset text)
def Jh (u:Upl) (who:qb) (number offset:Int) (text:qb) (now:Int):Upl × Int × Int :=
 if jM u who number now = 0 then qj9 u (mineK u who number now) (zd u who number now) offset text now else (Xt,0,jM u who number now)
def qag (u:Upl) (who:qb) (number now:Int):Int × Int:=if jM u who number now = 0 then (((zd u who number now).text.length:Int),0) else (0,jM u who number now)
def ke (u:Upl) (who:qb) (number now:Int):Upl × qb × Int :=
 if jM u who number now = 0 then (if (zd u who number now).text.length < (zd u who number now).size then (Xt,[],4) else (qmK u now (mineK u who number now),(zd u who number now).text,0)) else (Xt,[],jM u who number now)
def zE (l:List Gra) (f b w:qb) (r:Int):List Gra × Int:=if jl l f b w r = 0 then (QB (xP l f w r) f,yh (xP l f w r) f) else ([],jl l f b w r)
def Zo (h:Hub) (x:Upl × Int × Int):Hub × Ans:=if x.2.2 = 0 then ({ h with ups:=x.1 },⟨0,x.2.1,ze⟩) else (h,QW x.2.2)
def Zy (h:Hub) (r:Rqt) (u:Upl) (l:List Chg):Hub × Ans :=
 match wO h.fols r.folder with
 | none=>(h,noAns)
 | some j=>if (xF j r.key l).2.2 = 0 then ({ h with fols:=Y1 h.fols r.folder (xF j r.key l).1,ups:=u },⟨0,(xF j r.key l).2.1,ze⟩) else (h,QW (xF j r.key l).2.2)
def Q1 (h:Hub) (r:Rqt):Hub × Ans :=
 if jG h.gras r.folder r.who = 0 then (if h.fols.length = 8 then (h,QW 2) else ({ h with fols:=XU h.fols r.folder,gras:=xP h.gras r.folder r.who 3 },noAns)) else (h,QW (jG h.gras r.folder r.who))
def Ko (h:Hub) (r:Rqt):Hub × Ans :=
 if jD h.gras r.folder r.who < 1 then (h,QW 9)
 else if (zE h.gras r.folder r.who r.name r.number).2 = 0 then ({ h with gras:=(zE h.gras r.folder r.who r.name r.number).1 },noAns) else (h,QW (zE h.gras r.folder r.who r.name r.number).2)
def Kv (h:Hub) (r:Rqt):Hub × Ans :=
 if jD h.gras r.folder r.who < 1 then (h,QW 9) else
 match wO h.fols r.folder with
 | none=>(h,noAns)
 | some j=>if (Jw j r.number 10).2 = 0 then (h,⟨0,0,(Jw j r.number 10).1⟩) else (h,QW (Jw j r.number 10).2)
def qgd (h:Hub) (r:Rqt):Hub × Ans:=if (qag h.ups r.who r.number h.now).2 = 0 then (h,⟨0,(qag h.ups r.who r.number h.now).1,ze⟩) else (h,QW (qag h.ups r.who r.number h.now).2)
def qfA (h:Hub) (r:Rqt):Hub × Ans :=
 if (ke h.ups r.who r.number h.now).2.2 = 0 then Zy h r (ke h.ups r.who r.number h.now).1 [⟨2,r.name,[],(ke h.ups r.who r.number h.now).2.1,r.base⟩] else (h,QW (ke h.ups r.who r.number h.now).2.2)
def WC (h:Hub) (r:Rqt):Hub × Ans:=if jD h.gras r.folder r.who < 2 then (h,QW 9) else if r.kind = 7 then qfA h r else Zy h r h.ups r.chs
def y8 (h:Hub) (r:Rqt):Hub × Ans :=
 if ¬ (1 ≤ r.kind ∧ r.kind ≤ 8) then (h,QW 7)
 else if qj r.who = false then (h,QW 1)
 else if r.kind = 8 then Q1 h r
 else if r.kind = 3 then Ko h r
 else if r.kind = 2 then Kv h r
 else if r.kind = 4 then Zo h (Ju h.ups r.who r.number h.now)
 else if r.kind = 5 then Zo h (Jh h.ups r.who r.number r.offset r.text h.now)
 else if r.kind = 6 then qgd h r
 else WC h r
def Z3 (h:Hub) (r:Rqt):Hub × Ans × Int:=if yE h = 0 then ((y8 h r).1,(y8 h r).2,0) else (qhA,noAns,yE h)
theorem qf0:JRight W0:=y0.1 (by rfl)
theorem qah {l:List Gra} {f w:qb} (h:¬ jD l f w = 0):Zj l f = true:=by
 unfold jD at h
 cases hg:l.find? (sameKey ⟨f,w,0⟩) with
 | none=>rw [hg] at h;exact absurd rfl h
 | some g =>
   have h1:=List.mem_of_find?_eq_some hg;have h2:=xh.1 (List.find?_some hg);exact zS.2 ⟨g,h1,h2.1⟩
theorem HRight.has {h:Hub} (hr:HRight h) {f:qb}:x6 h.fols f = Zj h.gras f:=by
 rw [Bool.eq_iff_iff];constructor
 ·intro e;obtain ⟨s,hs,rfl⟩:=kg.1 e;exact hr.known s hs
 ·intro e;obtain ⟨g,hg,rfl⟩:=zS.1 e;exact hr.told g hg
theorem JT {j:Jou} (h:JRight j) (key:qb) (l:List Chg):xF j key l = yx j key l:=by
 unfold yx;rw [if_neg (by simp [y0.2 h])]
theorem qaI {j:Jou} (h:JRight j) {key:qb} {l:List Chg} (hz:(xF j key l).2.2 = 0):JRight (xF j key l).1:=by
 rw [JT h] at hz ⊢
 rcases Vt (j:=j) (key:=key) (l:=l) with ⟨e,he,h1⟩|⟨_,_,⟨c,_,h1⟩|⟨_,hR,h1⟩⟩
 ·rw [h1] at hz;exact absurd hz he
 ·rw [h1];exact h
 ·rw [h1];exact hR
theorem QH {u:Upl} {who:qb} {number now:Int} (h:jM u who number now = 0):qQ u now = 0 ∧ qj who = true ∧ yN (zu who number) (qt u.sess now) = (mineK u who number now:Int) ∧ (qt u.sess now)[mineK u who number now]? = some (zd u who number now) ∧ zu who number (zd u who number now) = true:=by
 unfold jM at h;by_cases h1:qQ u now = 0
 case neg=>rw [if_neg h1] at h;exact absurd h h1
 rw [if_pos h1] at h;by_cases h2:qj who = true
 case neg=>rw [if_neg h2] at h;omega
 rw [if_pos h2] at h;by_cases h3:yN (zu who number) (qt u.sess now) < 0
 ·rw [if_pos h3] at h;omega
 rcases xM (zu who number) (qt u.sess now) with ⟨e,_⟩|⟨k,hk,e,_,e3⟩
 ·omega
 have hK:mineK u who number now = k:=by unfold mineK;rw [e];rfl
 have hS:zd u who number now = (qt u.sess now)[k]:=by unfold zd;rw [hK,List.getElem?_eq_getElem hk];rfl
 rw [hK,hS];exact ⟨h1,h2,e,List.getElem?_eq_getElem hk,e3⟩
theorem Zf {α β:Type} {f:α → β} {L:List α} {k:Nat} {s s' : α} (h:L[k]? = some s) (hf:f s' = f s):(L.set k s').map f = L.map f:=by
 obtain ⟨hk,rfl⟩:=List.getElem?_eq_some_iff.1 h;apply List.ext_getElem
 ·simp
 ·intro i h1 h2;rw [List.getElem_map,List.getElem_map,List.getElem_set];by_cases hi:k = i
  ·subst hi;rw [if_pos rfl,hf]
  ·rw [if_neg hi]
theorem qip (s:Sess) (offset:Int) (text:qb) (till:Int):(Xs s offset text till).number = s.number ∧ (Xs s offset text till).who = s.who ∧ (Xs s offset text till).size = s.size:=by
 unfold Xs;split<;>exact ⟨rfl,rfl,rfl⟩
theorem Zw {u:Upl} {now:Int} (h:qQ u now = 0):yu u = 0 ∧ qq now 0 1099511627776 = true:=by
 unfold qQ at h;by_cases h1:yu u = 0
 ·rw [if_pos h1] at h;by_cases h2:qq now 0 1099511627776 = true
  ·exact ⟨h1,h2⟩
  ·rw [if_neg h2] at h;omega
 ·rw [if_neg h1] at h;exact absurd h h1
theorem zy {n a b:Int}:qq n a b = true ↔ a ≤ n ∧ n ≤ b:=by unfold qq;simp
theorem qaH {u:Upl} {now:Int} (hb:qQ u now = 0) {k:Nat} {s:Sess} (hs:(qt u.sess now)[k]? = some s) {offset:Int} {text:qb} (he:Jg s offset text = 0):yu { u with sess:=(qt u.sess now).set k (Xs s offset text (now + u.lasts)) } = 0:=by
 obtain ⟨h1,h2⟩:=Zw hb;obtain ⟨a,b,c,d,e⟩:=kS (Y3 now h1);obtain ⟨w1,w2⟩:=zy.1 h2;have hh:wL u = true:=a;unfold wL at hh;simp only [Bool.and_eq_true,zy] at hh;obtain ⟨n1,n2,n3⟩:=qip s offset text (now + u.lasts);have hm:s ∈ qt u.sess now:=List.mem_of_getElem? hs;have hnum:=Zf (f:=fun x:Sess=>x.number) hs n1
 have hof : ∀ who,jQ ((qt u.sess now).set k (Xs s offset text (now + u.lasts))) who = jQ (qt u.sess now) who:=fun who=>by
  unfold jQ;rw [Zf (f:=fun x:Sess=>if x.who = who then x.size else 0) hs (by simp only [n2,n3])]
 have hse:yj u.next (Xs s offset text (now + u.lasts)) = 0:=by
  have hc:yj u.next s = 0:=c s hm;show yj u.next _ = 0;unfold Xs;by_cases hg:kD s.text offset text = true
  ·rw [if_pos hg];exact hc
  ·rw [if_neg hg];unfold Jg at he;rw [if_neg hg] at he
   have hlen:¬ s.size < s.text.length + text.length:=by
    intro hx;by_cases ho:offset = s.text.length
    ·rw [if_pos ho,if_pos hx] at he;omega
    ·rw [if_neg ho] at he;omega
   unfold yj at hc ⊢;have hw3:qq (now + u.lasts) 0 2199023255552 = true:=zy.2 (by omega);simp only [hw3,Bool.and_true];by_cases h7:(qq s.number 1 (u.next - 1) && qq s.size 0 300 && qq s.till 0 2199023255552) = true
   ·rw [if_pos h7] at hc;simp only [Bool.and_eq_true] at h7;rw [if_pos (by simp [h7])];by_cases h8:qj s.who = true
    ·rw [if_pos h8,if_neg (by simp only [List.length_append];push_cast;omega)]
    ·rw [if_neg h8] at hc;omega
   ·rw [if_neg h7] at hc;omega
 refine Zn a (by show (List.set _ _ _).length ≤ 20;rw [List.length_set];exact b) (fun x hx=>?_) ?_ (fun x hx=>?_)
 ·rcases List.mem_or_eq_of_mem_set hx with h|rfl
  ·exact c x h
  ·exact hse
 ·have:=(List.pairwise_map (f:=fun x:Sess=>x.number) (R:=fun a b:Int=>a < b)).2 d;show List.Pairwise (fun a b:Sess=>a.number < b.number) ((qt u.sess now).set k _);rw [← List.pairwise_map (f:=fun x:Sess=>x.number) (R:=fun a b:Int=>a < b),hnum];exact this
 ·show jQ ((qt u.sess now).set k _) x.who ≤ u.room;rw [hof];rcases List.mem_or_eq_of_mem_set hx with h|rfl
  ·exact e x h
  ·rw [n2];exact e s hm
theorem qf5 {l l' : List Sess} (who:qb) (h:l'.Sublist l) (h0 : ∀ s,s ∈ l → 0 ≤ s.size):jQ l' who ≤ jQ l who:=by
 induction h with
 | slnil=>exact Int.le_refl _
 | cons a _ ih =>
   rw [wl];have:=ih fun s hs=>h0 s (List.mem_cons_of_mem _ hs)
   have:=h0 a (List.mem_cons_self ..);split<;>omega
 | cons_cons a _ ih =>
   rw [wl,wl];have:=ih fun s hs=>h0 s (List.mem_cons_of_mem _ hs)
   omega
theorem qaN {u:Upl} {now:Int} (hb:qQ u now = 0) (k:Nat):yu (qmK u now k) = 0:=by
 obtain ⟨h1,h2⟩:=Zw hb;obtain ⟨a,b,c,d,e⟩:=kS (Y3 now h1);have hsub:((qt u.sess now).eraseIdx k).Sublist (qt u.sess now):=List.eraseIdx_sublist _ _;refine Zn a (Nat.le_trans hsub.length_le b) (fun x hx=>c x (hsub.subset hx)) (List.Pairwise.sublist hsub d) (fun x hx=>?_);have:=qf5 x.who hsub fun s hs=>(vS (c s hs)).1
 have:=e x (hsub.subset hx);show jQ ((qt u.sess now).eraseIdx k) x.who ≤ u.room;have h3:(X8 u now).room = u.room:=rfl;have h4:(X8 u now).sess = qt u.sess now:=rfl;rw [h3,h4] at this;omega
structure Serves (h:Hub) (x:Hub × Ans):Prop where
 right:HRight x.1
 same:¬ x.2.err = 0 → x = (h,QW x.2.err)
theorem yH {h:Hub} (hr:HRight h) (e:Int):Serves h (h,QW e):=⟨hr,fun _=>rfl⟩
theorem zQ {h h' : Hub} {a:Ans} (hr:HRight h') (ha:a.err = 0):Serves h (h',a):=⟨hr,fun e=>absurd ha e⟩
theorem HRight.setUps {h:Hub} (hr:HRight h) {u:Upl} (hu:yu u = 0):HRight { h with ups:=u }:=⟨hr.now,hr.len,hr.each,hr.rise,hr.gra,hr.told,hr.known,hu⟩
theorem qaA {h:Hub} (hr:HRight h) {x:Upl × Int × Int} (hx:x.2.2 = 0 → yu x.1 = 0):Serves h (Zo h x):=by
 unfold Zo;by_cases h0:x.2.2 = 0
 ·rw [if_pos h0];exact zQ (hr.setUps (hx h0)) rfl
 ·rw [if_neg h0];exact yH hr _
theorem qf6 {u:Upl} {who:qb} {size now:Int} (h:(Ju u who size now).2.2 = 0):yu (Ju u who size now).1 = 0:=by
 unfold Ju at h ⊢;by_cases h0:yi u who size now = 0
 ·rw [if_pos h0];exact qek h0
 ·rw [if_neg h0] at h;exact absurd h h0
theorem qfi {u:Upl} {who:qb} {number offset:Int} {text:qb} {now:Int} (h:(Jh u who number offset text now).2.2 = 0):yu (Jh u who number offset text now).1 = 0:=by
 unfold Jh at h ⊢;by_cases h0:jM u who number now = 0
 ·rw [if_pos h0] at h ⊢;obtain ⟨m1,m2,m3,m4,m5⟩:=QH h0;unfold qj9 at h ⊢;by_cases h1:Jg (zd u who number now) offset text = 0
  ·rw [if_pos h1];exact qaH m1 m4 h1
  ·rw [if_neg h1] at h;exact absurd h h1
 ·rw [if_neg h0] at h;exact absurd h h0
theorem qfB {u:Upl} {who:qb} {number now:Int} (h:(ke u who number now).2.2 = 0):yu (ke u who number now).1 = 0:=by
 unfold ke at h ⊢;by_cases h0:jM u who number now = 0
 ·rw [if_pos h0] at h ⊢;by_cases h1:(zd u who number now).text.length < (zd u who number now).size
  ·rw [if_pos h1] at h;exact absurd h (by decide)
  ·rw [if_neg h1];exact qaN (QH h0).1 _
 ·rw [if_neg h0] at h;exact absurd h h0
theorem Wy {h:Hub} (hr:HRight h) {r:Rqt} {u:Upl} {l:List Chg} (hu:yu u = 0):Serves h (Zy h r u l):=by
 unfold Zy
 cases hj:wO h.fols r.folder with
 | none=>exact zQ hr rfl
 | some j =>
   obtain ⟨hm,hh⟩:=QF hj;have hJ:JRight j:=(hr.each _ hm).2;dsimp only;by_cases h0:(xF j r.key l).2.2 = 0
   ·rw [if_pos h0];refine zQ ⟨hr.now,by show (Y1 _ _ _).length ≤ 8;unfold Y1;rw [List.length_map];exact hr.len,fun s hs=>?_,by rw [qeR];exact hr.rise,hr.gra,fun g hg=>by show x6 (Y1 _ _ _) _ = true;rw [qlI];exact hr.told g hg,fun s hs=>?_,hu⟩ rfl
    ·rcases qao hs with ⟨rfl,_⟩|⟨hs,_⟩
     ·exact ⟨(hr.each _ hm).1,qaI hJ h0⟩
     ·exact hr.each s hs
    ·rcases qao hs with ⟨rfl,_⟩|⟨hs,_⟩
     ·exact hr.known ⟨r.folder,j⟩ hm
     ·exact hr.known s hs
   ·rw [if_neg h0];exact yH hr _
theorem qfC {h:Hub} (hr:HRight h) (r:Rqt):Serves h (qfA h r):=by
 unfold qfA;by_cases h0:(ke h.ups r.who r.number h.now).2.2 = 0
 ·rw [if_pos h0];exact Wy hr (qfB h0)
 ·rw [if_neg h0];exact yH hr _
theorem qeo {h:Hub} (hr:HRight h) (r:Rqt):Serves h (Kv h r):=by
 unfold Kv;split
 ·exact yH hr _
 ·split
  ·exact zQ hr rfl
  ·split
   ·exact zQ hr rfl
   ·exact yH hr _
theorem qlH {l:List Gra} {f w:qb} {r:Int} (hs:ql ja l = true) (hr:¬ r = 0) : ∃ g,g ∈ xP l f w r ∧ g.folder = f ∧ g.right = r:=by
 have h1:=qgz (l:=l) (f:=f) (w:=w) (r:=r) hs;unfold jD at h1
 cases hg:(xP l f w r).find? (sameKey ⟨f,w,0⟩) with
 | none=>rw [hg] at h1;exact absurd h1.symm hr
 | some g =>
   rw [hg] at h1;exact ⟨g,List.mem_of_find?_eq_some hg,(xh.1 (List.find?_some hg)).1,h1⟩
theorem qbN {l:List Gra} {f w g:qb} {r:Int} (hs:ql ja l = true) (h:Zj l g = true) (hg:¬ g = f):Zj (xP l f w r) g = true:=by
 obtain ⟨x,hx,rfl⟩:=zS.1 h;exact zS.2 ⟨x,qea hs hx (by rw [Bool.eq_false_iff];intro e;exact hg (xh.1 e).1),rfl⟩
theorem Ks {l:List Gra} {f w:qb} (h:jG l f w = 0):jx l = 0 ∧ qj f = true ∧ qj w = true ∧ Zj l f = false ∧ ¬ l.length = 60:=by
 unfold jG at h;by_cases h1:jx l = 0
 case neg=>rw [if_neg h1] at h;exact absurd h h1
 rw [if_pos h1] at h;by_cases h2:(qj f && qj w) = true
 case neg=>rw [if_neg h2] at h;omega
 rw [if_pos h2] at h;by_cases h3:l.any (zb f) = true
 ·rw [if_pos h3] at h;omega
 rw [if_neg h3] at h;by_cases h4:l.length = 60
 ·rw [if_pos h4] at h;omega
 rw [Bool.and_eq_true] at h2;refine ⟨h1,h2.1,h2.2,?_,h4⟩;have:l.any (zb f) = false:=by simpa using h3
 exact this
theorem qcc {h:Hub} (hr:HRight h) {r:Rqt} (h0:jG h.gras r.folder r.who = 0) (h8:¬ h.fols.length = 8):HRight { h with fols:=XU h.fols r.folder,gras:=xP h.gras r.folder r.who 3 }:=by
 obtain ⟨g1,g2,g3,g4,g5⟩:=Ks h0;obtain ⟨a1,a2,a3,a4⟩:=xo g1;have hf:x6 h.fols r.folder = false:=by rw [hr.has];exact g4
 obtain ⟨x,hx,hxf,hxr⟩:=qlH (f:=r.folder) (w:=r.who) (r:=3) a3 (by decide);have hlen:=hr.len;refine ⟨hr.now,by show (XU _ _).length ≤ 8;rw [VK];omega,fun s hs=>?_,qd1 hr.rise hf,WM g1 g2 g3 (by decide) (List.any_eq_true.2 ⟨x,hx,ZY.2 ⟨hxf,hxr⟩⟩) ?_,fun g hg=>?_,fun s hs=>?_,hr.ups⟩
 ·rcases Jq.1 hs with rfl|hs
  ·exact ⟨g2,qf0⟩
  ·exact hr.each s hs
 ·have:=qan (l:=h.gras) (f:=r.folder) (w:=r.who) (r:=3);omega
 ·rcases Y0 a3 hg with hg|⟨_,rfl⟩
  ·exact qd0.2 (.inr (hr.told g hg))
  ·exact qd0.2 (.inl rfl)
 ·rcases Jq.1 hs with rfl|hs
  ·exact zS.2 ⟨x,hx,hxf⟩
  ·refine qbN a3 (hr.known s hs) fun e=>?_
   rw [kg.2 ⟨s,hs,e⟩] at hf;cases hf
theorem qaJ {h:Hub} (hr:HRight h) (r:Rqt):Serves h (Q1 h r):=by
 unfold Q1;by_cases h0:jG h.gras r.folder r.who = 0
 ·rw [if_pos h0];by_cases h8:h.fols.length = 8
  ·rw [if_pos h8];exact yH hr _
  ·rw [if_neg h8];exact zQ (qcc hr h0 h8) rfl
 ·rw [if_neg h0];exact yH hr _
theorem qiJ {l:List Gra} {f b w:qb} {r:Int} (h:jl l f b w r = 0):jx l = 0 ∧ qj f = true ∧ qj b = true ∧ qj w = true ∧ 0 ≤ r ∧ r ≤ 3:=by
 unfold jl at h;by_cases h1:jx l = 0
 case neg=>rw [if_neg h1] at h;exact absurd h h1
 rw [if_pos h1] at h;by_cases h2:(qj f && (qj b && qj w)) = true
 case neg=>rw [if_neg h2] at h;omega
 rw [if_pos h2] at h;by_cases h3:qq r 0 3 = true
 case neg=>rw [if_neg h3] at h;omega
 simp only [Bool.and_eq_true] at h2;obtain ⟨w1,w2⟩:=zy.1 h3;exact ⟨h1,h2.1,h2.2.1,h2.2.2,w1,w2⟩
theorem qbk {L:List Gra} {f:qb} (h:yh L f = 0):L.any (wP f) = true ∧ L.length ≤ 60 ∧ QB L f = L:=by
 have hl:QB L f = L:=by unfold QB;rw [if_pos h]
 unfold yh at h;by_cases h1:L.any (wP f) = true
 ·rw [if_pos h1] at h;by_cases h2:60 < L.length
  ·rw [if_pos h2] at h;omega
  ·exact ⟨h1,by omega,hl⟩
 ·rw [if_neg h1] at h;omega
theorem qbl {l:List Gra} {f b w:qb} {r:Int} (h:(zE l f b w r).2 = 0):jl l f b w r = 0 ∧ yh (xP l f w r) f = 0 ∧ (zE l f b w r).1 = xP l f w r:=by
 unfold zE at h ⊢;by_cases h1:jl l f b w r = 0
 ·rw [if_pos h1] at h ⊢;exact ⟨h1,h,(qbk h).2.2⟩
 ·rw [if_neg h1] at h;exact absurd h h1
theorem qfH {h:Hub} (hr:HRight h) {r:Rqt} (h1:¬ jD h.gras r.folder r.who < 1) (h0:(zE h.gras r.folder r.who r.name r.number).2 = 0):HRight { h with gras:=(zE h.gras r.folder r.who r.name r.number).1 }:=by
 obtain ⟨e1,e2,e3⟩:=qbl h0;obtain ⟨g1,g2,g3,g4,g5,g6⟩:=qiJ e1;obtain ⟨k1,k2,_⟩:=qbk e2;obtain ⟨a1,a2,a3,a4⟩:=xo g1;rw [e3];have hf:x6 h.fols r.folder = true:=by rw [hr.has];exact qah (w:=r.who) (by omega)
 refine ⟨hr.now,hr.len,hr.each,hr.rise,WM g1 g2 g4 ⟨g5,g6⟩ k1 k2,fun g hg=>?_,fun s hs=>?_,hr.ups⟩
 ·rcases Y0 a3 hg with hg|⟨_,rfl⟩
  ·exact hr.told g hg
  ·exact hf
 ·by_cases he:s.name = r.folder
  ·obtain ⟨x,hx,hxo⟩:=List.any_eq_true.1 k1;exact zS.2 ⟨x,hx,by rw [he];exact (ZY.1 hxo).1⟩
  ·exact qbN a3 (hr.known s hs) he
theorem qdR {h:Hub} (hr:HRight h) (r:Rqt):Serves h (Ko h r):=by
 unfold Ko;by_cases h1:jD h.gras r.folder r.who < 1
 ·rw [if_pos h1];exact yH hr _
 ·rw [if_neg h1];by_cases h0:(zE h.gras r.folder r.who r.name r.number).2 = 0
  ·rw [if_pos h0];exact zQ (qfH hr h1 h0) rfl
  ·rw [if_neg h0];exact yH hr _
theorem YZ {h:Hub} (hr:HRight h) (r:Rqt):Serves h (y8 h r):=by
 unfold y8;split
 ·exact yH hr _
 split
 ·exact yH hr _
 split
 ·exact qaJ hr r
 split
 ·exact qdR hr r
 split
 ·exact qeo hr r
 split
 ·exact qaA hr qf6
 split
 ·exact qaA hr qfi
 split
 ·unfold qgd;split
  ·exact zQ hr rfl
  ·exact yH hr _
 ·unfold WC;split
  ·exact yH hr _
  split
  ·exact qfC hr r
  ·exact Wy hr hr.ups
end Go.Proofs.YtgcncinnlmjgdaaGreatDoor
namespace Go.Proofs.YtgcncinnlmjgdaaGreatDoor
open Go.Ab Go.RowKit
def Z5 (l:List Sess):AV := .sl false (l.map Sess.row)
def Fol.row (s:Fol):List AV:=[.v (str s.name),qU s.jou.base,.v (.int .i64 s.jou.first),yv s.jou.coms]
def Jo (l:List Fol):AV := .sl false (l.map Fol.row)
def Hub.row (h:Hub):List AV:=[Jo h.fols,jw h.gras,.sl false (h.ups.sess.map Sess.row),.v (.int .i64 h.ups.next),.v (.int .i64 h.ups.lasts),.v (.int .i64 h.ups.room),.v (.int .i64 h.now)]
def vT (h:Hub):AV := .agg h.row
structure Fol.small (s:Fol):Prop where
 name:s.name.length ≤ 1000000000
 jou:JBig s.jou
structure FBig (l:List Fol):Prop where
 each : ∀ s,s ∈ l → s.small
 len:l.length ≤ 1000000000
structure SBig (l:List Sess):Prop where
 each : ∀ s,s ∈ l → s.small
 len:l.length ≤ 1000000000
structure HBig (h:Hub):Prop where
 fols:FBig h.fols
 gras:GBig h.gras
 sess:SBig h.ups.sess
structure RBig (r:Rqt):Prop where
 who:r.who.length ≤ 1000000000
 folder:r.folder.length ≤ 1000000000
 name:r.name.length ≤ 1000000000
 key:r.key.length ≤ 1000000000
 text:r.text.length ≤ 1000000000
 chs:CBig r.chs
theorem HBig.ups {h:Hub} (hb:HBig h):UBig h.ups:=⟨fun s hs=>Nat.le_trans (hb.sess.each s hs).1 (by decide),fun s hs=>(hb.sess.each s hs).2,Nat.le_trans hb.sess.len (by decide)⟩
theorem jq {n:Nat} (h:n ≤ 1000000000):n ≤ 140737488355328:=Nat.le_trans h (by decide)
theorem qnx {n:Nat} {xs:List AV} (h:vZ C.tab 1000000000 n 68 xs) : ∃ s:Gra,xs = s.row ∧ s.small:=by
 cases n with
 | zero=>exact h.elim
 | succ n =>
   obtain ⟨_,_,rfl,h0,_,_,rfl,h1,_,_,rfl,h2,rfl⟩:=(show wx C.tab 0 _ = some _ → Vc (vZ C.tab 1000000000 n) [(0,9),(1,9),(2,3)] xs from h) rfl;obtain ⟨a0,rfl,l0⟩:=xa h0;obtain ⟨a1,rfl,l1⟩:=xa h1;obtain ⟨a2,rfl,_⟩:=y9 h2;exact ⟨⟨a0,a1,a2⟩,rfl,jq l0,jq l1⟩
theorem qjw {n:Nat} {xs:List AV} (h:vZ C.tab 1000000000 n 23 xs) : ∃ t:List Gra,xs = [jw t] ∧ GBig t:=by
 cases n with
 | zero=>exact h.elim
 | succ n =>
   obtain ⟨rows,he,hb,hr⟩:=(show (3:Nat) ≠ 0 → ∃ rows,xs = [AV.sl false rows] ∧ rows.length * 40 ≤ 1000000000 ∧ ∀ row,row ∈ rows → vZ C.tab 1000000000 n 68 row from h) (by decide)
   obtain ⟨l,rfl,hl⟩:=wv (f:=Gra.row) (ok:=Gra.small) (fun row hrow=>qnx (hr row hrow));refine ⟨l,he,hl,?_⟩;simp at hb;omega
theorem qlX {n:Nat} {xs:List AV} (h:vZ C.tab 1000000000 n 118 xs) : ∃ s:Sess,xs = s.row ∧ s.small:=by
 cases n with
 | zero=>exact h.elim
 | succ n =>
   obtain ⟨_,_,rfl,h0,_,_,rfl,h1,_,_,rfl,h2,_,_,rfl,h3,_,_,rfl,h4,rfl⟩:=(show wx C.tab 0 _ = some _ → Vc (vZ C.tab 1000000000 n) [(0,3),(1,9),(2,9),(3,3),(4,3)] xs from h) rfl;obtain ⟨a0,rfl,_⟩:=y9 h0;obtain ⟨a1,rfl,l1⟩:=xa h1;obtain ⟨a2,rfl,l2⟩:=xa h2;obtain ⟨a3,rfl,_⟩:=y9 h3;obtain ⟨a4,rfl,_⟩:=y9 h4;exact ⟨⟨a0,a1,a2,a3,a4⟩,rfl,jq l1,jq l2⟩
theorem qjx {n:Nat} {xs:List AV} (h:vZ C.tab 1000000000 n 24 xs) : ∃ t,xs = [Z5 t] ∧ SBig t:=by
 cases n with
 | zero=>exact h.elim
 | succ n =>
   obtain ⟨rows,he,hb,hr⟩:=(show (5:Nat) ≠ 0 → ∃ rows,xs = [AV.sl false rows] ∧ rows.length * 56 ≤ 1000000000 ∧ ∀ row,row ∈ rows → vZ C.tab 1000000000 n 118 row from h) (by decide)
   obtain ⟨l,rfl,hl⟩:=wv (f:=Sess.row) (ok:=Sess.small) (fun row hrow=>qlX (hr row hrow));refine ⟨l,he,hl,?_⟩;simp at hb;omega
theorem qnw {n:Nat} {xs:List AV} (h:vZ C.tab 1000000000 n 63 xs) : ∃ s:Fol,xs = s.row ∧ s.small:=by
 cases n with
 | zero=>exact h.elim
 | succ n =>
   obtain ⟨_,_,rfl,h0,_,_,rfl,h1,rfl⟩:=(show wx C.tab 0 _ = some _ → Vc (vZ C.tab 1000000000 n) [(0,9),(1,61)] xs from h) rfl;obtain ⟨a0,rfl,l0⟩:=xa h0;obtain ⟨a1,rfl,l1⟩:=qnz h1;exact ⟨⟨a0,a1⟩,rfl,l0,l1⟩
theorem qlV {n:Nat} {xs:List AV} (h:vZ C.tab 1000000000 n 22 xs) : ∃ t,xs = [Jo t] ∧ FBig t:=by
 cases n with
 | zero=>exact h.elim
 | succ n =>
   obtain ⟨rows,he,hb,hr⟩:=(show (4:Nat) ≠ 0 → ∃ rows,xs = [AV.sl false rows] ∧ rows.length * 72 ≤ 1000000000 ∧ ∀ row,row ∈ rows → vZ C.tab 1000000000 n 63 row from h) (by decide)
   obtain ⟨l,rfl,hl⟩:=wv (f:=Fol.row) (ok:=Fol.small) (fun row hrow=>qnw (hr row hrow));refine ⟨l,he,hl,?_⟩;simp at hb;omega
theorem qnA {n:Nat} {xs:List AV} (h:vZ C.tab 1000000000 n 26 xs) : ∃ u:Upl,xs = u.row ∧ SBig u.sess:=by
 cases n with
 | zero=>exact h.elim
 | succ n =>
   obtain ⟨_,_,rfl,h0,_,_,rfl,h1,_,_,rfl,h2,_,_,rfl,h3,rfl⟩:=(show wx C.tab 0 _ = some _ → Vc (vZ C.tab 1000000000 n) [(0,24),(1,3),(2,3),(3,3)] xs from h) rfl;obtain ⟨a0,rfl,l0⟩:=qjx h0;obtain ⟨a1,rfl,_⟩:=y9 h1;obtain ⟨a2,rfl,_⟩:=y9 h2;obtain ⟨a3,rfl,_⟩:=y9 h3;exact ⟨⟨a0,a1,a2,a3⟩,rfl,l0⟩
theorem qny {n:Nat} {xs:List AV} (h:vZ C.tab 1000000000 n 28 xs) : ∃ h:Hub,xs = h.row ∧ HBig h:=by
 cases n with
 | zero=>exact h.elim
 | succ n =>
   obtain ⟨_,_,rfl,h0,_,_,rfl,h1,_,_,rfl,h2,_,_,rfl,h3,rfl⟩:=(show wx C.tab 0 _ = some _ → Vc (vZ C.tab 1000000000 n) [(0,22),(1,23),(2,26),(6,3)] xs from h) rfl;obtain ⟨a0,rfl,l0⟩:=qlV h0;obtain ⟨a1,rfl,l1⟩:=qjw h1;obtain ⟨a2,rfl,l2⟩:=qnA h2;obtain ⟨a3,rfl,_⟩:=y9 h3;exact ⟨⟨a0,a1,a2,a3⟩,rfl,l0,l1,l2⟩
theorem qns {y:AV} (h:qe5 C.tab 1000000000 28 y) : ∃ c,y = .agg (Hub.row c) ∧ HBig c:=by
 obtain ⟨n,xs,rfl,h2⟩:=(show ∃ n xs,y = .agg xs ∧ vZ C.tab 1000000000 n 28 xs from h)
 obtain ⟨c,rfl,hc⟩:=qny h2;exact ⟨c,rfl,hc⟩
end Go.Proofs.YtgcncinnlmjgdaaGreatDoor
namespace Go.Proofs.YtgcncinnlmjgdaaGreatDoor
open Go.Op
structure SameView (h x:Hub) (f:qb):Prop where
 jou:wO x.fols f = wO h.fols f
 right : ∀ w,jD x.gras f w = jD h.gras f w
def qnT (h:Hub) (f:qb):List Ent × Int:=match wO h.fols f with|none=>([],5)|some j=>(vg j,0)
def qhS (h:Hub) (f:qb):List Ent × Int:=if yE h = 0 then qnT h f else ([],yE h)
end Go.Proofs.YtgcncinnlmjgdaaGreatDoor
namespace Go.Proofs.YtgcncinnlmjgdaaGreatDoor
open Go.Ab Go.RowKit
open Go.Op (bytesLess)
attribute [local irreducible] Awp j9 jr ye Red qz Go.Ab.Fin qf Rz wz jF jU ResOk yA j1 xR qX
def atF (p:qb) (x:Fol):Bool:=decide (x.name = p)
theorem Ya {t:List Fol} (h:ql yW t = true) : ∀ (j k:Nat) (hj:j < t.length) (hk:k < t.length),j < k → bytesLess t[j].name t[k].name = true:=by
 intro j k hj hk hjk
 induction k with
 | zero=>omega
 | succ k ih =>
   have h1:bytesLess t[k].name t[k + 1].name = true:=yt.1 h k hk;by_cases e:j = k
   ·subst e;exact h1
   ·exact vf (ih (by omega) (by omega)) h1
theorem qcG {p:qb} : ∀ {t:List Fol} {k:Nat},k ≤ t.length → (∀ (j:Nat) (h:j < t.length),j < k → bytesLess t[j].name p = true) → (∀ (h:k < t.length),bytesLess t[k].name p = false) → xX t p = k
 | [],k,hk,_,_=>by simp at hk;simp [xX,hk]
 | x :: l,0,hk,_,h2=>by
   have:=h2 (by simp);simp only [List.getElem_cons_zero] at this;simp [xX,List.takeWhile_cons,this]
 | x :: l,k + 1,hk,h1,h2=>by
   have hx:bytesLess x.name p = true:=h1 0 (by simp) (by omega);have:=qcG (t:=l) (k:=k) (by simpa using hk) (fun j h hj=>h1 (j + 1) (by simpa using h) (by omega)) (fun h=>h2 (by simpa using h));simp only [xX] at this;simp [xX,List.takeWhile_cons,hx,this]
theorem qhI {t:List Fol} {p:qb} (hs:ql yW t = true) {k:Nat} (hk:k < t.length) (he:t[k].name = p):xX t p = k:=by
 refine qcG (by omega) (fun j hj hjk=>?_) (fun _=>?_)
 ·rw [← he];exact Ya hs j k hj hk hjk
 ·rw [← he];exact zp _
theorem qdU {t:List Fol} {p:qb} (hs:ql yW t = true):x6 t p = (match t[xX t p]? with|some x=>decide (vp x.name p = 0)|none=>false):=by
 rcases xM (atF p) t with ⟨_,h2⟩|⟨k,hk,_,_,h3⟩
 ·have:x6 t p = false:=List.any_eq_false.2 (fun x hx=>by have:=h2 x hx;simpa [atF] using this);rw [this];split
  ·rename_i x hx;have hm:=List.mem_of_getElem? hx;have:=h2 x hm;rw [eq_comm,decide_eq_false_iff_not,yR];simpa [atF] using this
  ·rfl
 ·have he:t[k].name = p:=by simpa [atF] using h3
  have:x6 t p = true:=List.any_eq_true.2 ⟨t[k],List.getElem_mem _,h3⟩;rw [this,qhI hs hk he,List.getElem?_eq_getElem hk];simp [he,KC]
theorem qhr {t:List Fol} {p:qb} (hs:ql yW t = true) (h:x6 t p = true) : ∃ hk:xX t p < t.length,t[xX t p].name = p ∧ t.find? (atF p) = some t[xX t p] ∧ yN (atF p) t = xX t p:=by
 obtain ⟨x,hx,hk⟩:=List.any_eq_true.1 h;obtain ⟨k,hkl,rfl⟩:=List.getElem_of_mem hx;have he:t[k].name = p:=by simpa [atF] using hk
 have hp:=qhI hs hkl he
 have hbef : ∀ j (hj:j < k),atF p (t[j]'(by omega)) = false:=fun j hj=>by
  have h1:=Ya hs j k (by omega) hkl hj;have:¬ t[j].name = p:=fun e=>by rw [e,he,zp] at h1;cases h1
  simp [atF,this]
 refine ⟨by omega,by simp only [hp];exact he,?_,?_⟩
 ·simp only [hp];rw [List.find?_eq_some_iff_getElem];exact ⟨hk,k,hkl,rfl,fun j hj=>by rw [hbef j hj];rfl⟩
 ·rw [hp];refine wb hkl (fun x hx=>?_) hk;obtain ⟨j,hj,rfl⟩:=List.getElem_of_mem hx;rw [List.getElem_take];exact hbef j (by simp at hj;omega)
theorem qbX (e:Fol) (p:qb):jN C.P 137 [.agg e.row,.v (str p)] (.v (.int .i64 (vp e.name p))):=by
 refine qJ 0 ?_
 repeat' (first|refine qg ?_|(first|refine jT (Zr ..) ?_)|(refine xsS ?_ ?_;all_goals first|exact False.elim|intro hp hc)|refine xsA ?_ ?_)
 all_goals (apply qI;rfl;rfl)
theorem qij (l:List Fol) (p:qb) (hl:l.length ≤ 1000000000) (hs:ql yW l = true) :
  jN C.P 136 [Jo l,.v (str p),.clo (.func 137) [] []] (.tup [.v (.int .i64 (xX l p)),.v (.bool (x6 l p))]):=by
 refine qJ 0 ?_
 repeat' (first|refine qg ?_|fail|(refine xsS ?_ ?_;all_goals first|exact False.elim|intro hp hc)|refine xsA ?_ ?_)
 refine Zq (ts:=[(0,Jo l),(1,.v (str p)),(2,.clo (.func 137) [] []),(8,.v (.int .i64 l.length)),(9,.v (.int .i64 ((0:Nat):Int))),(10,.v (.int .i64 l.length))]) ?_
 all_goals try (rw [List.length_map];done)
 refine qB (fun n σ => ∃ lo hi:Nat,lo ≤ hi ∧ hi ≤ l.length ∧ n = hi - lo ∧ (∀ (k:Nat) (h:k < l.length),k < lo → Op.bytesLess l[k].name p = true) ∧ (∀ (k:Nat) (h:k < l.length),hi ≤ k → Op.bytesLess l[k].name p = false) ∧ σ = ⟨[(0,Jo l),(1,.v (str p)),(2,.clo (.func 137) [] []),(8,.v (.int .i64 l.length)),(9,.v (.int .i64 ((lo:Nat):Int))),(10,.v (.int .i64 ((hi:Nat):Int)))],[],C.nh⟩) l.length ⟨0,l.length,by omega,Nat.le_refl _,rfl,fun _ _ h=>absurd h (by omega),fun _ _ h=>absurd h (by omega),rfl⟩ ?_;rintro n σ ⟨lo,hi,hle,hhi,rfl,h1,h2,rfl⟩;by_cases hlt:lo < hi
 ·obtain ⟨m,hm⟩ : ∃ m:Nat,m = (lo + hi) / 2:=⟨_,rfl⟩
  have hmi:((lo:Int) + (hi:Int)) / 2 = (m:Int):=by omega
  have hml:m < l.length:=by omega
  have hr:=qK (f:=Fol.row) hml;have hr2:(l.map Fol.row)[(((lo:Int) + (hi:Int)) / 2).toNat]? = some l[m].row:=by rw [hmi];exact hr
  repeat' (first|refine qg ?_|(first|(apply qa;first|(apply ZC;rfl;rfl;rfl;rfl;rfl;omega;omega;exact nle rfl)|(apply ZB;rfl;rfl;rfl;rfl;rfl;omega;omega;exact nle rfl))|(apply qa;apply qch;(case hx=>rfl);(case hy=>rfl);(case hk=>decide);(case hN=>exact nle rfl))|(refine kV Tryz.func137 (qbX ..) ?_))|(refine xsS ?_ ?_;all_goals first|exact False.elim|intro hp hc)|refine xsA ?_ ?_)
  all_goals try (exfalso;omega)
  ·have hmg:Op.bytesLess l[m].name p = true:=(kQ _ _).1 hp;refine ⟨hi - (m + 1),_,by omega,yC (ts:=[(0,Jo l),(1,.v (str p)),(2,.clo (.func 137) [] []),(8,.v (.int .i64 l.length)),(9,.v (.int .i64 ((m + 1:Nat):Int))),(10,.v (.int .i64 ((hi:Nat):Int)))]) ?_,m + 1,hi,by omega,hhi,rfl,fun k h hk=>?_,h2,rfl⟩
   · (repeat (first|exact qx|refine jz ?_|refine xy ?_ ?_))
     all_goals (rw [hmi];rfl)
   ·by_cases e:k = m
    ·subst e;exact hmg
    ·exact vf (Ya hs k m h hml (by omega)) hmg
  ·have hmg:Op.bytesLess l[m].name p = false:=(by
    cases h:Op.bytesLess l[m].name p
    ·rfl
    ·have:=(kQ _ _).2 h;omega)
   refine ⟨m - lo,_,by omega,yC (ts:=[(0,Jo l),(1,.v (str p)),(2,.clo (.func 137) [] []),(8,.v (.int .i64 l.length)),(9,.v (.int .i64 ((lo:Nat):Int))),(10,.v (.int .i64 ((m:Nat):Int)))]) ?_,lo,m,by omega,by omega,rfl,h1,fun k h hk=>?_,rfl⟩
   · (repeat (first|exact qx|refine jz ?_|refine xy ?_ ?_))
     all_goals (rw [hmi])
   ·by_cases e:k = m
    ·subst e;exact hmg
    ·cases hkg:Op.bytesLess l[k].name p
     ·rfl
     ·rw [vf (Ya hs m k hml h (by omega)) hkg] at hmg;cases hmg
 obtain rfl:lo = hi:=by omega
 have hpos:xX l p = lo:=qcG hhi h1 (fun h=>h2 lo h (by omega));by_cases hin:lo < l.length
 ·have hr:=qK (f:=Fol.row) hin
  have hhit:x6 l p = decide (vp l[lo].name p = 0):=by
   rw [qdU hs,hpos,List.getElem?_eq_getElem hin]
  repeat' (first|refine qg ?_|(first|(refine kV Tryz.func137 (qbX ..) ?_))|(refine xsS ?_ ?_;all_goals first|exact False.elim|intro hp hc)|refine xsA ?_ ?_)
  all_goals try (exfalso;omega)
  rw [hpos,hhit]
  (exact kw (rs:=[.tmp 6,.tmp 7]))
 ·have hhit:x6 l p = false:=by
   rw [qdU hs,hpos,List.getElem?_eq_none (by omega)]
  repeat' (first|refine qg ?_|(first|(refine kV Tryz.func137 (qbX ..) ?_))|(refine xsS ?_ ?_;all_goals first|exact False.elim|intro hp hc)|refine xsA ?_ ?_)
  all_goals try (exfalso;omega)
  rw [hpos,hhit]
  (exact kw (rs:=[.tmp 6,.tmp 7]))
theorem Ve (h:Hub) (p:qb) (hl:h.fols.length ≤ 1000000000) (hs:ql yW h.fols = true) :
  jN C.P 88 [vT h,.v (str p)] (.tup [.v (.int .i64 (xX h.fols p)),.v (.bool (x6 h.fols p))]):=by
 have hse:=qij h.fols p hl hs;refine qJ 0 ?_;exact Yp
theorem qiY {h:Hub} (hs:ql yW h.fols = true) (ht : ∀ g,g ∈ h.gras → x6 h.fols g.folder = true):decide ((Vk h.gras).length = h.fols.length) = kI h:=by
 have hn:=qbj hs
 have hsub:h.gras.map (·.folder) ⊆ h.fols.map Fol.name:=by
  intro s hs;obtain ⟨g,hg,rfl⟩:=List.mem_map.1 hs;obtain ⟨x,hx,he⟩:=kg.1 (ht g hg);exact List.mem_map.2 ⟨x,hx,he⟩
 have hl:(zU (h.fols.map Fol.name)).length = h.fols.length:=by
  have:=(XW (h.fols.map Fol.name) h.fols.length (by simp)).2;rw [show (h.fols.map Fol.name).take h.fols.length = h.fols.map Fol.name from List.take_of_length_le (by simp)] at this;exact this.2 hn
 rw [Bool.eq_iff_iff,decide_eq_true_iff,Vk, ← hl,qd3 hsub];unfold kI;rw [Bool.and_eq_true,List.all_eq_true,List.all_eq_true];constructor
 ·intro h1;refine ⟨ht,fun s hs=>?_⟩;obtain ⟨g,hg,he⟩:=List.mem_map.1 (h1 (List.mem_map.2 ⟨s,hs,rfl⟩));exact zS.2 ⟨g,hg,he⟩
 ·rintro ⟨_,h1⟩ s hs;obtain ⟨x,hx,rfl⟩:=List.mem_map.1 hs;obtain ⟨g,hg,he⟩:=zS.1 (h1 x hx);exact List.mem_map.2 ⟨g,hg,he⟩
theorem qlb {h:Hub} {k:Nat} (hk:k < h.gras.length) (hn:x6 h.fols h.gras[k].folder = false):kI h = false:=by
 unfold kI;rw [Bool.and_eq_false_iff];left;rw [List.all_eq_false];exact ⟨h.gras[k],List.getElem_mem _,by rw [hn];decide⟩
theorem qib (h:Hub) (hl:h.fols.length ≤ 1000000) (hg:h.gras.length ≤ 1000000) (hs:ql yW h.fols = true):jN C.P 52 [vT h] (.v (.bool (kI h))):=by
 have hml:=fun ht=>qiY (h:=h) hs ht
 have hmn := @qlb h;have hfi:=fun p=>Ve h p (by omega) hs
 obtain ⟨F,G,U,now⟩:=h;dsimp only at *;refine qJ 0 ?_
 (repeat apply jW);refine qO ?_;(repeat' (first|apply qF|refine wk ?_|refine we ?_|refine wJ ?_|refine J4 ?_|refine wi ?_|refine wj ?_|refine X1 ?_|refine J6 ?_|refine VY ?_|refine Jt ?_|refine wI ?_|refine zK ?_|(first|fail)|refine xY ?_));show Awp _ _ _ _ _
 refine Ym 1 0 ?_
 repeat' (first|refine qg ?_|(first|(apply j5;apply vu;exact nle rfl)|(apply qa;apply vM;rfl;rfl;rfl;rfl;exact nle rfl)|(apply qP;apply xI;rfl;rfl;rfl;rfl;rfl;rfl;rfl;rfl))|(refine xsS ?_ ?_;all_goals first|exact False.elim|intro hp hc)|refine xsA ?_ ?_)
 all_goals try (exfalso;omega)
 (refine xsK (τ:=⟨[(1,.fp [Hub.row ⟨F,G,U,now⟩] 0 0),(3,.mp 0),(10,jw G),(11,.v (.int .i64 G.length)),(12,.v (.int .i64 ((0:Nat):Int)))],[(0,.mp (Vk (G.take 0)))],1⟩) [(1,0)] qpN qpP ?_)
 refine qB (fun n σ => ∃ i:Nat,i ≤ G.length ∧ n = G.length - i ∧ (∀ g,g ∈ G.take i → x6 F g.folder = true) ∧ σ = ⟨[(1,.fp [Hub.row ⟨F,G,U,now⟩] 0 0),(3,.mp 0),(10,jw G),(11,.v (.int .i64 G.length)),(12,.v (.int .i64 (i:Int)))],[(0,.mp (Vk (G.take i)))],1⟩) G.length ⟨0,Nat.zero_le _,rfl,(by simp),rfl⟩ ?_;rintro n σ ⟨i,hi,rfl,hsofar,rfl⟩;by_cases hlt:i < G.length
 ·have hr:=qK (f:=Gra.row) hlt;have hp1:=Xg ((G.take (i + 1)).map (·.folder));have hf:=hfi G[i].folder;have h4:=qa7 hlt
  cases hh:x6 F G[i].folder with
  | false =>
    rw [hmn hlt hh];rw [hh] at hf;clear hml hmn hfi
    repeat' (first|refine qg ?_|(first|(apply j5;apply vu;exact nle rfl)|(apply qa;apply vM;rfl;rfl;rfl;rfl;exact nle rfl)|(apply qP;apply xI;rfl;rfl;rfl;rfl;rfl;rfl;rfl;rfl)|refine yS (hf ..) ?_)|(refine xsS ?_ ?_;all_goals first|exact False.elim|intro hp hc)|refine xsA ?_ ?_)
    all_goals try (exfalso;first|omega|contradiction)
    (exact kw (rs:=[.tmp 2]))
  | true =>
    rw [hh] at hf;clear hml hmn hfi
    repeat' (first|refine qg ?_|(first|(apply j5;apply vu;exact nle rfl)|(apply qa;apply vM;rfl;rfl;rfl;rfl;exact nle rfl)|(apply qP;apply xI;rfl;rfl;rfl;rfl;rfl;rfl;rfl;rfl)|refine yS (hf ..) ?_)|(refine xsS ?_ ?_;all_goals first|exact False.elim|intro hp hc)|refine xsA ?_ ?_)
    all_goals try (exfalso;first|omega|contradiction)
    refine ⟨G.length - (i + 1),_,by omega,xsL (τ:=⟨[(1,.fp [Hub.row ⟨F,G,U,now⟩] 0 0),(3,.mp 0),(10,jw G),(11,.v (.int .i64 G.length)),(12,.v (.int .i64 ((i + 1:Nat):Int)))],[(0,.mp (Vk (G.take (i + 1))))],1⟩) [(0,0)] qpO (by (repeat (first|exact qn|(apply KW;(case hm=>exact tz6);(case hx=>rfl);(case hp=>exact qqc);(first|(case hr=>rfl)|(case hr=>assumption)|rotate_left))));all_goals (first|exact h4.symm|trace_state)),i + 1,by omega,rfl,jJ hlt hsofar hh,rfl⟩
 obtain rfl:i = G.length:=by omega
 rw [List.take_length] at hsofar;rw [← hml hsofar];clear hml hmn hfi;rw [List.take_length];generalize Vk G = AM at *
 repeat' (first|refine qg ?_|(first|(apply j5;apply vu;exact nle rfl)|(apply qa;apply vM;rfl;rfl;rfl;rfl;exact nle rfl)|(apply qP;apply xI;rfl;rfl;rfl;rfl;rfl;rfl;rfl;rfl))|(refine xsS ?_ ?_;all_goals first|exact False.elim|intro hp hc)|refine xsA ?_ ?_)
 all_goals try (exfalso;omega)
 apply qR;rfl;simp [Int.ofNat_inj]
end Go.Proofs.YtgcncinnlmjgdaaGreatDoor
