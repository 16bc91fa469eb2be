import Derived.Test.YtgcncinnlmjgdaaGreatDoorMz40
import Derived.Test.YtgcncinnlmjgdaaGreatDoorMz8
import Derived.Test.YtgcncinnlmjgdaaGreatDoorMz36
set_option linter.unusedSimpArgs false
set_option linter.unnecessarySimpa false
set_option linter.unusedVariables false
set_option maxHeartbeats 1000000
set_option maxRecDepth 10000
namespace Go.Proofs.YtgcncinnlmjgdaaGreatDoor
open Go.Ab Go.RowKit
theorem yP (w:WS) {n:Int} (hn:kv n):(w.numR n).s.length ≤ w.s.length + 22:=by
 unfold WS.numR;have:=kn hn;split
 ·exact Nat.le_add_right _ _
 ·simp only [List.length_append];omega
theorem vI (w:WS) (t:qb):(w.txtR t).s.length ≤ w.s.length + 1022:=by
 unfold WS.txtR;split
 ·exact Nat.le_add_right _ _
 ·have:=yP w (n:=t.length) ⟨by omega,by omega⟩;simp only [List.length_append];omega
theorem qkl (w:WS) {c:Chg} (h:c.fit):(w.chgR c).s.length ≤ w.s.length + 3110:=by
 have h1:=yP w h.kind;have h2:=vI (w.numR c.kind) c.path;have h3:=vI ((w.numR c.kind).txtR c.path) c.to;have h4:=vI (((w.numR c.kind).txtR c.path).txtR c.to) c.text;have h5:=yP ((((w.numR c.kind).txtR c.path).txtR c.to).txtR c.text) h.base;unfold WS.chgR;omega
theorem qiH (l:List Chg) : ∀ (w:WS),(∀ c,c ∈ l → c.fit) → (l.foldl WS.chgR w).s.length ≤ w.s.length + 3110 * l.length:=by
 induction l with
 | nil=>exact fun w _=>Nat.le_refl _
 | cons c l ih =>
   intro w h;have h1:=qkl w (h c (by simp));have h2:=ih (w.chgR c) (fun x hx=>h x (by simp [hx]));simp only [List.length_cons,List.foldl_cons];omega
theorem qbe (w:WS) {l:List Chg} (h : ∀ c,c ∈ l → c.fit):(w.chgsR l).s.length ≤ w.s.length + 62222:=by
 unfold WS.chgsR;split
 ·exact Nat.le_add_right _ _
 ·have h1:=qiH l (w.numR l.length) h;have h2:=yP w (n:=l.length) ⟨by omega,by omega⟩;omega
attribute [local irreducible] Awp j9 jr ye Red qz Go.Ab.Fin qf Rz wz jF jU ResOk yA j1 xR qX
def rq0:Rqt:=⟨2,[97],[102],[],[],[],0,0,0,[]⟩
def tx0:qb:=[50,59,49,59,97,49,59,102,48,59,48,59,48,59,48,59,48,59,48,59,48,59]
theorem qpi:JM rq0 = (tx0,0):=by
 simp [JM,WS.rqt,WS.nums,WS.num,WS.txts,WS.txt,WS.chgs,WS.lst,WS.done,WG,xj,wK,Lib.itoa,qqt,ws0,rq0,tx0]
theorem qnn:rq0.fit:=⟨⟨by decide,by decide⟩,by decide,by decide,by decide,by decide,by decide,WP,WP,WP,(fun c h=>by cases h),by decide⟩
theorem qj1:jN C.P 10 [] (.v (.bool true)):=by
 have c1:=qgV rq0 qnn;rw [qpi] at c1;have c2:=qgW tx0 (by decide);rw [qa9 qpi] at c2;unfold rq0 tx0 Rqt.row ya at c1 c2;dsimp only [List.map_nil] at c1 c2;refine qJ 0 ?_
 repeat' (first|(first|refine jT (c1 ..) ?_|refine yS (c2 ..) ?_|(apply qa;apply (xH (cs:=[.v (.int .i64 2),.v (str [97]),.v (str [102]),.v (str []),.v (str []),.v (str []),.v (.int .i64 0),.v (.int .i64 0),.v (.int .i64 0),.sl true []]));rfl;rfl;rfl;kernel_rfl;exact nle rfl))|refine qo ?_|(refine xsS ?_ ?_;all_goals first|exact False.elim|intro hp hc)|refine xsA ?_ ?_)
 all_goals ((exact Jd (rs:=[.tmp 0]) (hz:=Vb)))
theorem ZJ {a:Int} (h:(Lit.int .i64 a).wf = true):kv a:=by
 simp [Lit.wf] at h;have e1:IntKind.i64.min = -9223372036854775808:=rfl;have e2:IntKind.i64.max = 9223372036854775807:=rfl;exact ⟨by omega,by omega⟩
theorem qlR {n:Nat} {xs:List AV} (h:vZ C.tab 1000000000 n 77 xs) : ∃ s:Chg,xs = s.row ∧ s.fit:=by
 cases n with
 | zero=>exact h.elim
 | succ n =>
   obtain ⟨_,_,rfl,h0,_,_,rfl,h1,_,_,rfl,h2,_,_,rfl,h3,_,_,rfl,h4,rfl⟩:=(show wx C.tab 0 _ = some _ → Vc (vZ C.tab 1000000000 n) [(0,3),(1,9),(2,9),(3,9),(4,3)] xs from h) rfl;obtain ⟨a0,rfl,l0⟩:=y9 h0;obtain ⟨a1,rfl,l1⟩:=xa h1;obtain ⟨a2,rfl,l2⟩:=xa h2;obtain ⟨a3,rfl,l3⟩:=xa h3;obtain ⟨a4,rfl,l4⟩:=y9 h4;exact ⟨⟨a0,a1,a2,a3,a4⟩,rfl,ZJ l0,l1,l2,l3,ZJ l4⟩
theorem qjv {n:Nat} {xs:List AV} (h:vZ C.tab 1000000000 n 38 xs) : ∃ t:List Chg,xs = [ya t] ∧ (∀ c,c ∈ t → c.fit) ∧ t.length ≤ 1000000000:=by
 cases n with
 | zero=>exact h.elim
 | succ n =>
   obtain ⟨rows,he,hb,hr⟩:=(show (5:Nat) ≠ 0 → ∃ rows,xs = [AV.sl false rows] ∧ rows.length * 64 ≤ 1000000000 ∧ ∀ row,row ∈ rows → vZ C.tab 1000000000 n 77 row from h) (by decide)
   obtain ⟨l,rfl,hl⟩:=wv (f:=Chg.row) (ok:=Chg.fit) (fun row hrow=>qlR (hr row hrow));refine ⟨l,he,hl,?_⟩;simp at hb;omega
theorem qlW {n:Nat} {xs:List AV} (h:vZ C.tab 1000000000 n 40 xs) : ∃ r:Rqt,xs = r.row ∧ r.fit:=by
 cases n with
 | zero=>exact h.elim
 | succ n =>
   obtain ⟨_,_,rfl,h0,_,_,rfl,h1,_,_,rfl,h2,_,_,rfl,h3,_,_,rfl,h4,_,_,rfl,h5,_,_,rfl,h6,_,_,rfl,h7,_,_,rfl,h8,_,_,rfl,h9,rfl⟩:=(show wx C.tab 0 _ = some _ → Vc (vZ C.tab 1000000000 n) [(0,3),(1,9),(2,9),(3,9),(4,9),(5,9),(6,3),(7,3),(8,3),(9,38)] xs from h) rfl;obtain ⟨a0,rfl,l0⟩:=y9 h0;obtain ⟨a1,rfl,l1⟩:=xa h1;obtain ⟨a2,rfl,l2⟩:=xa h2;obtain ⟨a3,rfl,l3⟩:=xa h3;obtain ⟨a4,rfl,l4⟩:=xa h4;obtain ⟨a5,rfl,l5⟩:=xa h5;obtain ⟨a6,rfl,l6⟩:=y9 h6;obtain ⟨a7,rfl,l7⟩:=y9 h7;obtain ⟨a8,rfl,l8⟩:=y9 h8;obtain ⟨a9,rfl,l9,l10⟩:=qjv h9;exact ⟨⟨a0,a1,a2,a3,a4,a5,a6,a7,a8,a9⟩,rfl,ZJ l0,l1,l2,l3,l4,l5,ZJ l6,ZJ l7,ZJ l8,l9,l10⟩
theorem qlP {y:AV} (h:qe5 C.tab 1000000000 40 y) : ∃ c,y = .agg (Rqt.row c) ∧ c.fit:=by
 obtain ⟨n,xs,rfl,h2⟩:=(show ∃ n xs,y = .agg xs ∧ vZ C.tab 1000000000 n 40 xs from h)
 obtain ⟨c,rfl,hc⟩:=qlW h2;exact ⟨c,rfl,hc⟩
@[reducible] def scH (s:qb) (a:Nat) (b:Bool):HB := .own true 3 [[.v (str s),.v (.int .i64 (a:Int)),.v (.bool b)]]
theorem qaD (w:WS) (b:Bool):(w.yesR b).s.length ≤ w.s.length + 22:=by
 unfold WS.yesR;cases b
 ·exact yP w (n:=0) ⟨by decide,by decide⟩
 ·exact yP w (n:=1) ⟨by decide,by decide⟩
theorem qkG (w:WS) {e:Ent} (h:e.fit):(w.entR e).s.length ≤ w.s.length + 3000:=by
 have h1:=vI w e.path;have h2:=qaD (w.txtR e.path) e.fold;have h3:=vI ((w.txtR e.path).yesR e.fold) e.text;have h4:=yP (((w.txtR e.path).yesR e.fold).txtR e.text) h.ver;unfold WS.entR;omega
theorem qkv (w:WS) {c:Com} (h:c.fit):(w.comR c).s.length ≤ w.s.length + 64000:=by
 have h1:=yP w h.num;have h2:=vI (w.numR c.num) c.key;have h3:=qbe ((w.numR c.num).txtR c.key) h.chs;unfold WS.comR;omega
@[reducible] def prw (p:Pag):List AV:=[.v (.bool p.reset),.sl false (p.tree.map Ent.row),.sl false (p.coms.map Com.row),.v (.int .i64 p.cur),.v (.bool p.more)]
@[reducible] noncomputable def qqN (D:qb × Int):Exit → St → Prop:=qog C #[ResultVar.tmp 2,ResultVar.tmp 3] 0 (.tup [.v (str D.1),.v (.int .i64 D.2)]) []
@[reducible] def qqO (p:Pag) (w:WS):St:=⟨[(4,.op 0 0 0),(5,.fp [prw p] 0 0)],[(0,wR w)],1⟩
theorem qdE (w:WS):w.done.1.length ≤ w.s.length:=by
 unfold WS.done;split
 ·exact Nat.zero_le _
 ·split
  ·exact Nat.zero_le _
  ·exact Nat.le_refl _
theorem qkb (r:Rqt) (h:r.fit):(JM r).1.length ≤ 1000000000:=by
 rw [← qkc];refine Nat.le_trans (qdE _) ?_;have l0:ws0.s.length = 0:=rfl;unfold WS.rqtR;have l1:=yP ws0 h.kind;generalize ws0.numR r.kind = w1 at *;have l2:=vI w1 r.who;generalize w1.txtR r.who = w2 at *;have l3:=vI w2 r.folder;generalize w2.txtR r.folder = w3 at *;have l4:=vI w3 r.name;generalize w3.txtR r.name = w4 at *;have l5:=vI w4 r.key;generalize w4.txtR r.key = w5 at *;have l6:=vI w5 r.text;generalize w5.txtR r.text = w6 at *;have l7:=yP w6 h.number;generalize w6.numR r.number = w7 at *;have l8:=yP w7 h.offset;generalize w7.numR r.offset = w8 at *;have l9:=yP w8 h.base;generalize w8.numR r.base = w9 at *;have lz:=qbe w9 h.chs;omega
theorem qjm (a:Ans) (h:a.fit):(Yl a).1.length ≤ 1000000000:=by
 rw [← qjn];unfold qgN;by_cases hbig:60 < a.page.tree.length ∨ 10 < a.page.coms.length
 ·rw [if_pos hbig];exact Nat.zero_le _
 ·rw [if_neg hbig];refine Nat.le_trans (qdE _) ?_;have l0:ws0.s.length = 0:=rfl;unfold WS.ansR;have l1:=yP ws0 h.err;generalize ws0.numR a.err = w1 at *;have l2:=yP w1 h.num;generalize w1.numR a.num = w2 at *;have l3:=qaD w2 a.page.reset;generalize w2.yesR a.page.reset = w3 at *;have l4:=yP w3 (n:=a.page.tree.length) ⟨by omega,by omega⟩;generalize w3.numR a.page.tree.length = w4 at *;have b4:=kf WS.entR Ent.fit 3000 (fun w x hx=>qkG w hx) a.page.tree w4 h.tree;have m4:a.page.tree.length * 3000 ≤ 60 * 3000:=Nat.mul_le_mul_right _ (by omega);generalize a.page.tree.foldl WS.entR w4 = w5 at *;have l5:=yP w5 (n:=a.page.coms.length) ⟨by omega,by omega⟩;generalize w5.numR a.page.coms.length = w6 at *;have b5:=kf WS.comR Com.fit 64000 (fun w x hx=>qkv w hx) a.page.coms w6 h.coms;have m5:a.page.coms.length * 64000 ≤ 10 * 64000:=Nat.mul_le_mul_right _ (by omega);generalize a.page.coms.foldl WS.comR w6 = w7 at *;have l7:=yP w7 h.cur;generalize w7.numR a.page.cur = w8 at *;have l8:=qaD w8 a.page.more;omega
theorem qfk (s:qb) (hs:s.length ≤ 1000000000):(vU s).1.fit:=by
 unfold vU;split
 ·exact ZS
 ·rename_i q r hq;obtain ⟨e1,e2⟩:=rd_rqt.of _ _ _ hq;have hf:q.fit:=qeI e2 (by have:=congrArg List.length e1;rw [List.length_append] at this;omega);split
  ·exact hf
  ·exact ZS
end Go.Proofs.YtgcncinnlmjgdaaGreatDoor
