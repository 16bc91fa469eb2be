import Derived.Test.YtgcncinnlmjgdaaGreatDoorTy
import Derived.Test.YtgcncinnlmjgdaaGreatDoorMz0
import Derived.Test.YtgcncinnlmjgdaaGreatDoorMz5
import Derived.Test.YtgcncinnlmjgdaaGreatDoorMz7
import Derived.Test.YtgcncinnlmjgdaaGreatDoorMz1
set_option linter.unusedSimpArgs false
set_option linter.unnecessarySimpa false
set_option linter.unusedVariables false
set_option maxHeartbeats 1000000
set_option maxRecDepth 10000
namespace Go.Proofs.YtgcncinnlmjgdaaGreatDoor
open Go.Ab Go.RowKit
noncomputable def C1:Cx := { C with nh:=1 }
noncomputable def C2:Cx := { C with nh:=2 }
theorem wv {α:Type} {f:α → List AV} {ok:α → Prop} : ∀ {rows:List (List AV)},(∀ row,row ∈ rows → ∃ a,row = f a ∧ ok a) → ∃ l:List α,rows = l.map f ∧ ∀ a,a ∈ l → ok a
 | [],_=>⟨[],rfl,fun a h=>by cases h⟩
 | row :: rows,h=>by
   obtain ⟨a,rfl,ha⟩:=h row (List.mem_cons_self ..);obtain ⟨l,rfl,hl⟩:=wv fun r hr=>h r (List.mem_cons_of_mem _ hr)
   exact ⟨a :: l,rfl,fun b hb=>by rcases List.mem_cons.1 hb with rfl|hb;exact ha;exact hl b hb⟩
theorem xJ (s:qb) (hs:s.length ≤ 140737488355328):jN C.P 49 [.v (str s)] (.v (.bool (qj s))):=Vj rfl fun w=>JZ s w (by omega)
theorem y9 {n:Nat} {xs:List AV} (h:vZ C.tab 1000000000 n 3 xs) : ∃ a,xs = [.v (.int .i64 a)] ∧ (Lit.int .i64 a).wf = true:=by
 cases n with
 | zero=>exact h.elim
 | succ n=>exact h
theorem xa {n:Nat} {xs:List AV} (h:vZ C.tab 1000000000 n 9 xs) : ∃ s:qb,xs = [.v (str s)] ∧ s.length ≤ 1000000000:=by
 cases n with
 | zero=>exact h.elim
 | succ n=>exact h
theorem qlQ {n:Nat} {xs:List AV} (h:vZ C.tab 1000000000 n 4 xs) : ∃ b,xs = [.v (.bool b)]:=by
 cases n with
 | zero=>exact h.elim
 | succ n=>exact h
def Ent.row (e:Ent):List AV:=[.v (str e.path),.v (.bool e.fold),.v (str e.text),.v (.int .i64 e.ver)]
def Ent.small (e:Ent):Prop:=e.path.length ≤ 1000000000 ∧ e.text.length ≤ 1000000000
def qU (t:List Ent):AV := .sl false (t.map Ent.row)
structure EBig (t:List Ent):Prop where
 each : ∀ e,e ∈ t → e.small
 len:t.length ≤ 1000000000
def Chg.row (c:Chg):List AV:=[.v (.int .i64 c.kind),.v (str c.path),.v (str c.to),.v (str c.text),.v (.int .i64 c.base)]
def Chg.small (c:Chg):Prop:=c.path.length ≤ 1000000000 ∧ c.to.length ≤ 1000000000 ∧ c.text.length ≤ 1000000000
def ya (t:List Chg):AV := .sl false (t.map Chg.row)
structure CBig (t:List Chg):Prop where
 each : ∀ e,e ∈ t → e.small
 len:t.length ≤ 1000000000
theorem qnv {n:Nat} {xs:List AV} (h:vZ C.tab 1000000000 n 103 xs) : ∃ s:Ent,xs = s.row ∧ s.small:=by
 cases n with
 | zero=>exact h.elim
 | succ n =>
   obtain ⟨_,_,rfl,h0,_,_,rfl,h1,_,_,rfl,h2,_,_,rfl,h3,rfl⟩:=(show wx C.tab 0 _ = some _ → Vc (vZ C.tab 1000000000 n) [(0,9),(1,4),(2,9),(3,3)] xs from h) rfl;obtain ⟨a0,rfl,l0⟩:=xa h0;obtain ⟨a1,rfl⟩:=qlQ h1;obtain ⟨a2,rfl,l2⟩:=xa h2;obtain ⟨a3,rfl,_⟩:=y9 h3;exact ⟨⟨a0,a1,a2,a3⟩,rfl,l0,l2⟩
theorem qnt {n:Nat} {xs:List AV} (h:vZ C.tab 1000000000 n 77 xs) : ∃ s:Chg,xs = s.row ∧ s.small:=by
 cases n with
 | zero=>exact h.elim
 | succ n =>
   obtain ⟨_,_,rfl,h0,_,_,rfl,h1,_,_,rfl,h2,_,_,rfl,h3,_,_,rfl,h4,rfl⟩:=(show wx C.tab 0 _ = some _ → Vc (vZ C.tab 1000000000 n) [(0,3),(1,9),(2,9),(3,9),(4,3)] xs from h) rfl;obtain ⟨a0,rfl,_⟩:=y9 h0;obtain ⟨a1,rfl,l1⟩:=xa h1;obtain ⟨a2,rfl,l2⟩:=xa h2;obtain ⟨a3,rfl,l3⟩:=xa h3;obtain ⟨a4,rfl,_⟩:=y9 h4;exact ⟨⟨a0,a1,a2,a3,a4⟩,rfl,l1,l2,l3⟩
theorem qlU {n:Nat} {xs:List AV} (h:vZ C.tab 1000000000 n 43 xs) : ∃ t:List Ent,xs = [qU t] ∧ EBig t:=by
 cases n with
 | zero=>exact h.elim
 | succ n =>
   obtain ⟨rows,he,hb,hr⟩:=(show (4:Nat) ≠ 0 → ∃ rows,xs = [AV.sl false rows] ∧ rows.length * 48 ≤ 1000000000 ∧ ∀ row,row ∈ rows → vZ C.tab 1000000000 n 103 row from h) (by decide)
   obtain ⟨l,rfl,hl⟩:=wv (f:=Ent.row) (ok:=Ent.small) (fun row hrow=>qnv (hr row hrow));refine ⟨l,he,hl,?_⟩;simp at hb;omega
theorem qlS {n:Nat} {xs:List AV} (h:vZ C.tab 1000000000 n 38 xs) : ∃ t:List Chg,xs = [ya t] ∧ CBig t:=by
 cases n with
 | zero=>exact h.elim
 | succ n =>
   obtain ⟨rows,he,hb,hr⟩:=(show (5:Nat) ≠ 0 → ∃ rows,xs = [AV.sl false rows] ∧ rows.length * 64 ≤ 1000000000 ∧ ∀ row,row ∈ rows → vZ C.tab 1000000000 n 77 row from h) (by decide)
   obtain ⟨l,rfl,hl⟩:=wv (f:=Chg.row) (ok:=Chg.small) (fun row hrow=>qnt (hr row hrow));refine ⟨l,he,hl,?_⟩;simp at hb;omega
def Rqt.row (r:Rqt):List AV:=[.v (.int .i64 r.kind),.v (str r.who),.v (str r.folder),.v (str r.name),.v (str r.key),.v (str r.text),.v (.int .i64 r.number),.v (.int .i64 r.offset),.v (.int .i64 r.base),ya r.chs]
def Com.row (c:Com):List AV:=[.v (.int .i64 c.num),.v (str c.key),ya c.chs]
def yv (l:List Com):AV := .sl false (l.map Com.row)
def Pag.row (p:Pag):List AV:=[.v (.bool p.reset),qU p.tree,yv p.coms,.v (.int .i64 p.cur),.v (.bool p.more)]
def Ans.row (a:Ans):List AV:=[.v (.int .i64 a.err),.v (.int .i64 a.num),.v (.bool a.page.reset),qU a.page.tree,yv a.page.coms,.v (.int .i64 a.page.cur),.v (.bool a.page.more)]
def Jf (a:Ans):AV := .agg a.row
attribute [local irreducible] Awp j9 jr ye Red qz Go.Ab.Fin qf Rz wz jF jU ResOk yA j1 xR qX
def wS:qb:=[47]
theorem qdg (s:qb) (c:UInt8):jN C.P 154 [.v (str s),.v (.int .u8 (c.toNat:Int))] (.v (.int .i64 (Lib.indexByte s c))):=by
 refine qJ 0 ?_
 repeat' (first|refine qg ?_|(first|(apply qa;apply qhl;exact Tryz.func189;(case hname=>rfl);(case hb=>rfl);(case hnx=>rfl);(case hex=>rfl);(case hx=>rfl);(case hy=>rfl);(case hrun=>exact fun w=>Lib.run_indexByteString _ _ w);(case hr=>rfl);(case hN=>exact nle rfl)))|(refine xsS ?_ ?_;all_goals first|exact False.elim|intro hp hc)|refine xsA ?_ ?_)
 apply qI;rfl;simp
theorem qme (s:qb):jN C.P 267 [.v (str s),.v (str wS)] (.v (.int .i64 (s.count 47:Nat))):=by
 refine qJ 0 ?_
 repeat' (first|refine qg ?_|(first|(apply qa;apply qhl;exact Tryz.func272;(case hname=>rfl);(case hb=>rfl);(case hnx=>rfl);(case hex=>rfl);(case hx=>rfl);(case hy=>rfl);(case hrun=>exact fun w=>Lib.run_countString _ _ w);(case hr=>rfl);(case hN=>exact nle rfl)))|(refine xsS ?_ ?_;all_goals first|exact False.elim|intro hp hc)|refine xsA ?_ ?_)
 all_goals try (exfalso;simp_all [wS];done)
 all_goals (apply qI;rfl;simp [Lib.countByte])
theorem qmk (s:qb):jN C.P 260 [.v (str s)] (.v (.bool (yD s))):=by
 have htg:=QS s;refine qJ 0 ?_
 repeat' (first|refine qg ?_|(first|refine jT (qme s ..) ?_)|(refine xsS ?_ ?_;all_goals first|exact False.elim|intro hp hc)|refine xsA ?_ ?_)
 all_goals (apply qR;rfl;rw [htg])
 all_goals first
  | (have h6:¬ 6 ≤ s.count 47:=(by omega)
     simp [h6];omega)
  | (have h6:6 ≤ s.count 47:=(by omega)
     simp [h6];done)
def Sess.row (s:Sess):List AV:=[.v (.int .i64 s.number),.v (str s.who),.v (str s.text),.v (.int .i64 s.size),.v (.int .i64 s.till)]
def Upl.row (u:Upl):List AV:=[.sl false (u.sess.map Sess.row),.v (.int .i64 u.next),.v (.int .i64 u.lasts),.v (.int .i64 u.room)]
def vt (u:Upl):AV := .agg u.row
def Sess.small (s:Sess):Prop:=s.who.length ≤ 140737488355328 ∧ s.text.length ≤ 140737488355328
structure UBig (u:Upl):Prop where
 who : ∀ s,s ∈ u.sess → s.who.length ≤ 9223372036854775807
 text : ∀ s,s ∈ u.sess → s.text.length ≤ 140737488355328
 len:u.sess.length ≤ 9223372036854775807
theorem Vf (s:qb) (hs:s.length ≤ 9223372036854775807):jN C.P 49 [.v (str s)] (.v (.bool (qj s))):=Vj rfl fun w=>JZ s w hs
theorem QU (a b c:Int):jN C.P 119 [.v (.int .i64 a),.v (.int .i64 b),.v (.int .i64 c)] (.v (.bool (qq a b c))):=by
 refine qJ 0 ?_
 repeat' (first|refine qg ?_|fail|(refine xsS ?_ ?_;all_goals first|exact False.elim|intro hp hc)|refine xsA ?_ ?_)
 all_goals (apply qR;rfl;simp_all [qq];try omega)
theorem qik (u:Upl) (s:Sess) (h1:1 ≤ u.next) (h2:u.next ≤ 1099511627776) (hs:s.who.length ≤ 9223372036854775807):jN C.P 120 [vt u,.agg s.row] (.v (.int .i64 (yj u.next s))):=by
 refine qJ 0 ?_
 repeat' (first|refine qg ?_|(first|refine jT (QU ..) ?_|refine jT (Vf _ hs ..) ?_)|(refine xsS ?_ ?_;all_goals first|exact False.elim|intro hp hc)|refine xsA ?_ ?_)
 all_goals (apply qI;rfl;simp_all [yj])
theorem qlY (l:List Sess) (who:qb) (hs : ∀ s,s ∈ l → 0 ≤ s.size ∧ s.size ≤ 300) (hl:l.length ≤ 1000) :
  jN C.P 121 [.sl false (l.map Sess.row),.v (str who)] (.v (.int .i64 (jQ l who))):=by
 refine qJ 0 ?_
 repeat' (first|refine qg ?_|fail|(refine xsS ?_ ?_;all_goals first|exact False.elim|intro hp hc)|refine xsA ?_ ?_)
 refine Zq (ts:=[(1,.v (str who)),(5,.v (.int .i64 (jQ (l.take 0) who))),(8,.sl false (l.map Sess.row)),(9,.v (.int .i64 l.length)),(10,.v (.int .i64 ((0:Nat):Int)))]) ?_
 all_goals try (rw [List.length_map];done)
 refine qB (fun n σ => ∃ i:Nat,i ≤ l.length ∧ n = l.length - i ∧ (True) ∧ σ = ⟨[(1,.v (str who)),(5,.v (.int .i64 (jQ (l.take i) who))),(8,.sl false (l.map Sess.row)),(9,.v (.int .i64 l.length)),(10,.v (.int .i64 (i:Int)))],[],C.nh⟩) l.length ⟨0,Nat.zero_le _,rfl,trivial,rfl⟩ ?_;rintro n σ ⟨i,hi,rfl, -,rfl⟩;by_cases hlt:i < l.length
 ·have hr:=qK (f:=Sess.row) hlt;have hb1:=qej who hs i;have hb2:=hs l[i] (List.getElem_mem _);have hsucc:=qei hlt who
  repeat' (first|refine qg ?_|fail|(refine xsS ?_ ?_;all_goals first|exact False.elim|intro hp hc)|refine xsA ?_ ?_)
  all_goals try (exfalso;omega)
  all_goals (refine ⟨l.length - (i + 1),_,by omega,yC (ts:=[(1,.v (str who)),(5,.v (.int .i64 (jQ (l.take (i + 1)) who))),(8,.sl false (l.map Sess.row)),(9,.v (.int .i64 l.length)),(10,.v (.int .i64 ((i + 1:Nat):Int)))]) ?_,i + 1,by omega,rfl,trivial,rfl⟩;((repeat (first|exact qx|refine jz ?_|refine xy ?_ ?_))))
  all_goals simp_all
 ·obtain rfl:i = l.length:=by omega
  repeat' (first|refine qg ?_|fail|(refine xsS ?_ ?_;all_goals first|exact False.elim|intro hp hc)|refine xsA ?_ ?_)
  all_goals first|(exfalso;omega)|skip
  all_goals (apply qI;rfl;simp [List.take_length])
theorem K7 (u:Upl) (hu:UBig u):jN C.P 53 [vt u] (.v (.int .i64 (yu u))):=by
 refine qJ 0 ?_;have hlen:=hu.len
 repeat' (first|refine qg ?_|(first|refine jT (QU ..) ?_)|(refine xsS ?_ ?_;all_goals first|exact False.elim|intro hp hc)|refine xsA ?_ ?_)
 all_goals first|(apply qI;rfl;simp_all [yu,wL];done)|(apply qI;rfl;have h20:20 < u.sess.length:=(by omega);simp_all [yu,wL];done)|skip
 rename_i h20;have hw : ∀ s,s ∈ u.sess → s.who.length ≤ 9223372036854775807:=hu.who;have hn:1 ≤ u.next ∧ u.next ≤ 1099511627776:=by simp_all [qq]
 have hnl:¬ 20 < u.sess.length:=by omega
 have hhead:wL u = true:=by simp_all [wL]
 refine Ym 1 0 ?_;refine Zq (ts:=[(1,.fp [u.row] 0 0),(32,.sl false (u.sess.map Sess.row)),(33,.v (.int .i64 u.sess.length)),(34,.v (.int .i64 ((0:Nat):Int)))]) ?_
 all_goals try (rw [List.length_map];done)
 refine qB (fun n σ => ∃ i:Nat,i ≤ u.sess.length ∧ n = u.sess.length - i ∧ (∀ s,s ∈ u.sess.take i → yj u.next s = 0) ∧ σ = ⟨[(1,.fp [u.row] 0 0),(32,.sl false (u.sess.map Sess.row)),(33,.v (.int .i64 u.sess.length)),(34,.v (.int .i64 (i:Int)))],[],C.nh⟩) u.sess.length ⟨0,Nat.zero_le _,rfl,(by simp),rfl⟩ ?_;rintro n σ ⟨i,hi,rfl,hsofar,rfl⟩;by_cases hlt:i < u.sess.length
 ·have hr:=qK (f:=Sess.row) hlt;have hwi:=hw u.sess[i] (List.getElem_mem _)
  repeat' (first|refine qg ?_|(first|refine jT (qik _ _ hn.1 hn.2 hwi ..) ?_)|(refine xsS ?_ ?_;all_goals first|exact False.elim|intro hp hc)|refine xsA ?_ ?_)
  all_goals try (exfalso;omega)
  ·apply qI;rfl;have he:=kY hlt hsofar hp;have hz:¬ jp (yj u.next) u.sess = 0:=by rw [he];exact hp
   simp only [yu,hhead,hnl,hz,if_true,if_false];exact he.symm
  ·refine ⟨u.sess.length - (i + 1),_,by omega,xsM (ts:=[(1,.fp [u.row] 0 0),(32,.sl false (u.sess.map Sess.row)),(33,.v (.int .i64 u.sess.length)),(34,.v (.int .i64 ((i + 1:Nat):Int)))]),i + 1,by omega,rfl,jJ hlt hsofar hp,rfl⟩
 obtain rfl:i = u.sess.length:=by omega
 clear hlt hi;have hz:jp (yj u.next) u.sess = 0:=jA.2 (fun s hs=>hsofar s qaw);clear hsofar
 repeat' (first|refine qg ?_|fail|(refine xsS ?_ ?_;all_goals first|exact False.elim|intro hp hc)|refine xsA ?_ ?_)
 all_goals try (exfalso;simp_all;done)
 refine Zq (ts:=[(1,.fp [u.row] 0 0),(6,.v (.int .i64 ((0 + 1:Nat):Int)))]) ?_;refine qB (fun n σ => ∃ i:Nat,i ≤ (u.sess.drop 1).length ∧ n = (u.sess.drop 1).length - i ∧ (∀ (k:Nat) (h:k + 1 < u.sess.length),k < i → decide ((u.sess[k]'(by omega)).number < u.sess[k + 1].number) = true) ∧ σ = ⟨[(1,.fp [u.row] 0 0),(6,.v (.int .i64 ((i + 1:Nat):Int)))],[],C.nh⟩) (u.sess.drop 1).length ⟨0,Nat.zero_le _,rfl,(fun k h hk=>absurd hk (Nat.not_lt_zero _)),rfl⟩ ?_;have hdl:(u.sess.drop 1).length = u.sess.length - 1:=by simp
 rintro n σ ⟨i,hi,rfl,hsofar,rfl⟩;by_cases hlt:i + 1 < u.sess.length
 ·have hr:=qK (f:=Sess.row) hlt;have hr':=qK (f:=Sess.row) (l:=u.sess) (i:=i) (by omega)
  repeat' (first|refine qg ?_|fail|(refine xsS ?_ ?_;all_goals first|exact False.elim|intro hp hc)|refine xsA ?_ ?_)
  all_goals try (exfalso;simp_all;done)
  ·have hrf:¬ ql (fun a b=>decide (a.number < b.number)) u.sess = true:=fun h=>by
    have:=yt.1 h i hlt;simp at this;omega
   apply qI;rfl;simp [yu,hhead,hnl,hz,hrf]
  ·refine ⟨(u.sess.drop 1).length - (i + 1),_,by omega,yC (ts:=[(1,.fp [u.row] 0 0),(6,.v (.int .i64 ((i + 1 + 1:Nat):Int)))]) ?_,i + 1,by omega,rfl,(fun k h hk=>by
    by_cases e:k = i
    ·subst e;simp;omega
    ·exact hsofar k h (by omega)),rfl⟩;((repeat (first|exact qx|refine jz ?_|refine xy ?_ ?_)))
 have hrise:ql (fun a b=>decide (a.number < b.number)) u.sess = true:=yt.2 fun k h=>hsofar k h (by simp at hi;omega)
 clear hsofar;have hsz : ∀ s,s ∈ u.sess → 0 ≤ s.size ∧ s.size ≤ 300:=fun s hs=>vS (jA.1 hz s hs)
 have hl:u.sess.length ≤ 1000:=by omega
 repeat' (first|refine qg ?_|fail|(refine xsS ?_ ?_;all_goals first|exact False.elim|intro hp hc)|refine xsA ?_ ?_)
 all_goals try (exfalso;omega)
 refine Zq (ts:=[(1,.fp [u.row] 0 0),(67,.sl false (u.sess.map Sess.row)),(68,.v (.int .i64 u.sess.length)),(69,.v (.int .i64 ((0:Nat):Int)))]) ?_
 all_goals try (rw [List.length_map];done)
 refine qB (fun n σ => ∃ i:Nat,i ≤ u.sess.length ∧ n = u.sess.length - i ∧ (∀ s,s ∈ u.sess.take i → jQ u.sess s.who ≤ u.room) ∧ σ = ⟨[(1,.fp [u.row] 0 0),(67,.sl false (u.sess.map Sess.row)),(68,.v (.int .i64 u.sess.length)),(69,.v (.int .i64 (i:Int)))],[],C.nh⟩) u.sess.length ⟨0,Nat.zero_le _,rfl,(by simp),rfl⟩ ?_;rintro n σ ⟨i,hi,rfl,hsofar,rfl⟩;by_cases hlt:i < u.sess.length
 ·have hr:=qK (f:=Sess.row) hlt
  repeat' (first|refine qg ?_|(first|refine jT (qlY _ _ hsz hl ..) ?_)|(refine xsS ?_ ?_;all_goals first|exact False.elim|intro hp hc)|refine xsA ?_ ?_)
  all_goals try (exfalso;omega)
  ·have hrf:¬ qeF u = true:=fun h=>by
    have:=List.all_eq_true.1 h _ (List.getElem_mem hlt);simp at this;omega
   apply qI;rfl;simp [yu,hhead,hnl,hz,hrise,hrf]
  ·refine ⟨u.sess.length - (i + 1),_,by omega,xsM (ts:=[(1,.fp [u.row] 0 0),(67,.sl false (u.sess.map Sess.row)),(68,.v (.int .i64 u.sess.length)),(69,.v (.int .i64 ((i + 1:Nat):Int)))]),i + 1,by omega,rfl,jJ hlt hsofar (by omega),rfl⟩
 obtain rfl:i = u.sess.length:=by omega
 have hroomy:qeF u = true:=List.all_eq_true.2 fun s hs=>by
  have:=hsofar s qaw;simpa using this
 clear hsofar
 repeat' (first|refine qg ?_|fail|(refine xsS ?_ ?_;all_goals first|exact False.elim|intro hp hc)|refine xsA ?_ ?_)
 all_goals try (exfalso;omega)
 apply qI;rfl;simp [yu,hhead,hnl,hz,hrise,hroomy]
def qQ (u:Upl) (now:Int):Int:=if yu u = 0 then (if qq now 0 1099511627776 then 0 else 3) else yu u
def zu (who:qb) (number:Int) (s:Sess):Bool:=decide (s.who = who) && decide (s.number = number)
def VQ (now:Int) (s:Sess):Bool:=decide (now ≤ s.till)
def qt (l:List Sess) (now:Int):List Sess:=l.filter (VQ now)
def X8 (u:Upl) (now:Int):Upl := { u with sess:=qt u.sess now }
def Xt:Upl:=⟨[],0,0,0⟩
def yi (u:Upl) (who:qb) (size now:Int):Int :=
 if qQ u now = 0 then
  if qj who then
   if size < 0 ∨ 300 < size ∨ u.next = 1099511627776 then 3
   else if (qt u.sess now).length = 20 then 2
   else if u.room < jQ (qt u.sess now) who + size then 10 else 0
  else 1
 else qQ u now
def VZ (u:Upl) (who:qb) (size now:Int):Upl := { u with sess:=qt u.sess now ++ [⟨u.next,who,[],size,now + u.lasts⟩],next:=u.next + 1 }
def JG (u:Upl) (n e:Int):AV := .tup [vt u,.v (.int .i64 n),.v (.int .i64 e)]
def ZW (u:Upl) (who:qb) (size now:Int):AV:=if yi u who size now = 0 then JG (VZ u who size now) u.next 0 else JG Xt 0 (yi u who size now)
theorem kJ {u:Upl} {who:qb} {size now e:Int} (h:yi u who size now = e) (h0:e ≠ 0):ZW u who size now = JG Xt 0 e:=by unfold ZW;rw [h,if_neg h0]
theorem qi2 {u:Upl} {who:qb} {size now:Int} (h:yi u who size now = 0):ZW u who size now = JG (VZ u who size now) u.next 0:=by unfold ZW;rw [if_pos h]
theorem qay {u:Upl} (h:yu u = 0):wL u = true ∧ u.sess.length ≤ 20 ∧ (∀ s,s ∈ u.sess → yj u.next s = 0) ∧ ql (fun a b=>decide (a.number < b.number)) u.sess = true ∧ qeF u = true:=by
 unfold yu at h;split at h
 ·rename_i h1;split at h
  ·cases h
  ·rename_i h2;split at h
   ·rename_i h3;split at h
    ·rename_i h4;split at h
     ·rename_i h5;exact ⟨h1,by omega,jA.1 h3,h4,h5⟩
     ·cases h
    ·cases h
   ·rename_i h3;exact absurd h h3
 ·cases h
theorem XK {u:Upl} {now:Int} (h:qQ u now = 0):yu u = 0 ∧ 0 ≤ now ∧ now ≤ 1099511627776:=by
 unfold qQ at h;split at h
 ·rename_i h1;split at h
  ·rename_i h2;simp [qq] at h2;exact ⟨h1,h2⟩
  ·cases h
 ·rename_i h1;exact absurd h h1
theorem Ye {l:List Sess} {now:Int} {s:Sess} (h:s ∈ qt l now):s ∈ l:=(List.mem_filter.1 h).1
theorem QR (l:List Sess) (now:Int):(qt l now).length ≤ l.length:=List.length_filter_le _ _
structure UOk (u:Upl) (now:Int):Prop where
 now0:0 ≤ now
 now1:now ≤ 1099511627776
 l0:1 ≤ u.lasts
 l1:u.lasts ≤ 1000000
 r0:0 ≤ u.room
 r1:u.room ≤ 100000
 n0:1 ≤ u.next
 n1:u.next ≤ 1099511627776
 len:u.sess.length ≤ 20
 sz : ∀ s,s ∈ u.sess → 0 ≤ s.size ∧ s.size ≤ 300
theorem uok {u:Upl} {now:Int} (h:qQ u now = 0):UOk u now:=by
 obtain ⟨h1,h2,h3⟩:=XK h;obtain ⟨h4,h5,h6,_,_⟩:=qay h1;simp [wL,qq] at h4;exact ⟨h2,h3,h4.1.1.1,h4.1.1.2,h4.1.2.1,h4.1.2.2,h4.2.1,h4.2.2,h5,fun s hs=>vS (h6 s hs)⟩
theorem qkI:qiG C.P 118 = some [0,1,1,0,0]:=by kernel_rfl
theorem qgA (a b:Sess):JB [0,1,1,0,0] a.row b.row = some (decide (a = b)):=by
 obtain ⟨a1,a2,a3,a4,a5⟩:=a;obtain ⟨b1,b2,b3,b4,b5⟩:=b;simp only [Sess.row,JB,JR,str,Sess.mk.injEq,if_true,Option.some.injEq];by_cases h1:a1 = b1<;>by_cases h2:a2 = b2<;>by_cases h3:a3 = b3<;>by_cases h4:a4 = b4<;>by_cases h5:a5 = b5<;>simp [h1,h2,h3,h4,h5]
theorem qcY {α:Type} {l l' : List α} {i:Nat} (h:i < l.length) (h' : i < l'.length) (he:l.take i = l'.take i) (hi:l[i] = l'[i]):l.take (i + 1) = l'.take (i + 1):=by
 rw [List.take_succ_eq_append_getElem h,List.take_succ_eq_append_getElem h',he,hi]
theorem qoU (a b:Upl) (ha:a.sess.length ≤ 9223372036854775807) (hb:b.sess.length ≤ 9223372036854775807):jN C.P 31 [vt a,vt b] (.v (.bool (decide (a = b)))):=by
 refine qJ 0 ?_
 repeat' (first|refine qg ?_|fail|(refine xsS ?_ ?_;all_goals first|exact False.elim|intro hp hc)|refine xsA ?_ ?_)
 all_goals first
  | (have hne:a ≠ b:=(fun h=>by subst h;simp_all)
     apply qR;rfl;simp [hne];done)
  | skip
 refine Ym 2 0 ?_;refine Ym 3 1 ?_;have hl:a.sess.length = b.sess.length:=by simp_all;omega
 refine Zq (ts:=[(2,.fp [a.row] 0 0),(3,.fp [b.row] 0 0),(5,.v (.int .i64 ((0:Nat):Int)))]) ?_;refine qB (fun n σ => ∃ i:Nat,i ≤ a.sess.length ∧ n = a.sess.length - i ∧ (a.sess.take i = b.sess.take i) ∧ σ = ⟨[(2,.fp [a.row] 0 0),(3,.fp [b.row] 0 0),(5,.v (.int .i64 (i:Int)))],[],C.nh⟩) a.sess.length ⟨0,Nat.zero_le _,rfl,rfl,rfl⟩ ?_;rintro n σ ⟨i,hi,rfl,hsofar,rfl⟩;by_cases hlt:i < a.sess.length
 ·have hr:=qK (f:=Sess.row) hlt;have hr':=qK (f:=Sess.row) (l:=b.sess) (i:=i) (by omega)
  repeat' (first|refine qg ?_|(first|(apply qa;apply VC;rfl;rfl;exact qkI;exact qgA _ _;(first|exact .inl ⟨rfl,rfl⟩|exact .inr ⟨rfl,rfl⟩);exact nle rfl))|(refine xsS ?_ ?_;all_goals first|exact False.elim|intro hp hc)|refine xsA ?_ ?_)
  all_goals try (exfalso;omega)
  ·have hne:a ≠ b:=fun h=>by subst h;simp at hp
   apply qR;rfl;simp [hne]
  ·refine ⟨a.sess.length - (i + 1),_,by omega,xsM (ts:=[(2,.fp [a.row] 0 0),(3,.fp [b.row] 0 0),(5,.v (.int .i64 ((i + 1:Nat):Int)))]),i + 1,by omega,rfl,(qcY hlt (by omega) hsofar (by simpa using hp)),rfl⟩
 obtain rfl:i = a.sess.length:=by omega
 repeat' (first|refine qg ?_|fail|(refine xsS ?_ ?_;all_goals first|exact False.elim|intro hp hc)|refine xsA ?_ ?_)
 all_goals try (exfalso;omega)
 have he:a = b:=by
  rw [List.take_length,hl,List.take_length] at hsofar;obtain ⟨a1,a2,a3,a4⟩:=a;obtain ⟨b1,b2,b3,b4⟩:=b;simp_all
 apply qR;rfl;simp [he]
theorem qdc (l:List Sess) (hl:l.length ≤ 1000000) :
  qf C.P 57 [.sl false (l.map Sess.row)] [] (.os 0 0 l.length) [.own false 5 (l.map Sess.row)]:=by
 by_cases h0:l = []
 ·subst h0;refine qJ 0 ?_
  repeat' (first|refine qg ?_|(first|(refine jd ?_)|(refine vm ?_)|(refine Xj ?_))|(refine xsS ?_ ?_;all_goals first|exact False.elim|intro hp hc)|refine xsA ?_ ?_)
  · (refine Q4 (C:=C) (Q9 (C:=C) 2 5 rfl (Nat.zero_le _)) ?_)
    (exact yp (rs:=[.tmp 2]) [(0,0)] 1 Yh)
  · (exact yp (rs:=[.tmp 2]) [(0,0)] 1 Yh)
 ·refine qJ 0 ?_
  repeat' (first|refine qg ?_|(first|(refine jd ?_)|(refine vm ?_)|(apply qa;apply Qh;rfl;exact (fun h=>h0 (List.map_eq_nil_iff.1 h));rfl;rfl;(first|exact .inl rfl|exact .inr rfl);exact nle rfl))|(refine xsS ?_ ?_;all_goals first|exact False.elim|intro hp hc)|refine xsA ?_ ?_)
  (exact yp (rs:=[.tmp 2]) [(0,0)] 1 Yh)
theorem Zs (p:Sess → Bool) (g:FuncId) (hg:IsFn C.P g) (cap:List AV) (hcap:AV.pure.pureL cap = true) (l:List Sess) (hl:l.length ≤ 1000000) (hc : ∀ s,s ∈ l → jN C.P g (.agg s.row :: cap) (.v (.bool (p s)))) :
  jN C.P 178 [.sl false (l.map Sess.row),.clo (.func g) [] cap] (.v (.int .i64 (yN p l))):=by
 refine qJ 0 ?_
 repeat' (first|refine qg ?_|fail|(refine xsS ?_ ?_;all_goals first|exact False.elim|intro hp hc)|refine xsA ?_ ?_)
 refine Zq (ts:=[(0,.sl false (l.map Sess.row)),(1,.clo (.func g) [] cap),(7,.v (.int .i64 l.length)),(8,.v (.int .i64 ((0:Nat):Int)))]) ?_
 all_goals try (rw [List.length_map];done)
 refine qB (fun n σ => ∃ i:Nat,i ≤ l.length ∧ n = l.length - i ∧ (∀ s,s ∈ l.take i → p s = false) ∧ σ = ⟨[(0,.sl false (l.map Sess.row)),(1,.clo (.func g) [] cap),(7,.v (.int .i64 l.length)),(8,.v (.int .i64 (i:Int)))],[],C.nh⟩) l.length ⟨0,Nat.zero_le _,rfl,(by simp),rfl⟩ ?_;rintro n σ ⟨i,hi,rfl,hsofar,rfl⟩;by_cases hlt:i < l.length
 ·have hr:=qK (f:=Sess.row) hlt;have hci:=hc l[i] (List.getElem_mem _)
  repeat' (first|refine qg ?_|(first|(apply qa;apply zZ [];rfl;exact hg;exact hci;(case hz=>exact qeZ);(case hfl=>rfl);(case hN=>exact nle rfl)))|(refine xsS ?_ ?_;all_goals first|exact False.elim|intro hp hc)|refine xsA ?_ ?_)
  all_goals try (exfalso;omega)
  ·apply qI;rfl;exact (wb hlt hsofar hp).symm
  ·refine ⟨l.length - (i + 1),_,by omega,xsM (ts:=[(0,.sl false (l.map Sess.row)),(1,.clo (.func g) [] cap),(7,.v (.int .i64 l.length)),(8,.v (.int .i64 ((i + 1:Nat):Int)))]),i + 1,by omega,rfl,jJ hlt hsofar hp,rfl⟩
 obtain rfl:i = l.length:=by omega
 repeat' (first|refine qg ?_|fail|(refine xsS ?_ ?_;all_goals first|exact False.elim|intro hp hc)|refine xsA ?_ ?_)
 all_goals try (exfalso;omega)
 apply qI;rfl;exact (zt fun s hs=>hsofar s qaw).symm
def zeroSess:Sess:=⟨0,[],[],0,0⟩
def WB (p:Sess → Bool) (l:List Sess):List Sess:=l.filter (fun s => !p s) ++ List.replicate (l.length - (l.filter (fun s => !p s)).length) zeroSess
theorem qe7 (p:Sess → Bool) (g:FuncId) (hg:IsFn C.P g) (cap:List AV) (hcap:AV.pure.pureL cap = true) (l:List Sess) (hl:l.length ≤ 1000000) (hc : ∀ s,s ∈ l → jN C.P g (.agg s.row :: cap) (.v (.bool (p s)))) :
  qf C1.P 213 [.os 0 0 l.length,.clo (.func g) [] cap] [.own false 5 (l.map Sess.row)] (.os 0 0 (l.filter (fun s => !p s)).length) [.own false 5 ((WB p l).map Sess.row)]:=by
 refine qJ (C:=C1) 1 ?_;have hidx:=Zs p g hg cap hcap l hl hc
 rcases xM p l with ⟨h1,h2⟩|⟨k,hk,h1,h2,h3⟩
 ·rw [h1] at hidx
  repeat' (first|refine qg ?_|(first|(apply qa;apply yJ [0];exact qr Tryz.func178 rfl rfl;exact hidx;(case hz=>exact qqf);(case hfl=>rfl);(case hN=>exact nle rfl)))|(refine xsS ?_ ?_;all_goals first|exact False.elim|intro hp hc)|refine xsA ?_ ?_)
  rw [show l.filter (fun s => !p s) = l from List.filter_eq_self.2 (fun s hs=>by simp [h2 s hs])]
  (exact yp (rs:=[.tmp 4]) [] 1 (by (repeat (first|exact qn|refine J8 ?_|refine vH ?_ ?_));all_goals (apply qoq;simp [WB,show l.filter (fun s => !p s) = l from List.filter_eq_self.2 (fun s hs=>by simp [h2 s hs])])))
 ·rw [h1] at hidx
  repeat' (first|refine qg ?_|(first|(apply qa;apply yJ [0];exact qr Tryz.func178 rfl rfl;exact hidx;(case hz=>exact qqf);(case hfl=>rfl);(case hN=>exact nle rfl)))|(refine xsS ?_ ?_;all_goals first|exact False.elim|intro hp hc)|refine xsA ?_ ?_)
  all_goals try (exfalso;omega)
  (refine xsK (τ:=⟨[(0,.os 0 0 l.length),(1,.clo (.func g) [] cap),(5,.v (.int .i64 (k:Int))),(6,.v (.int .i64 ((k + 1:Nat):Int)))],[(0,.own false 5 (l.map Sess.row))],1⟩) [] tz9 qgO ?_)
  refine qB (fun n σ => ∃ (j q:Nat) (R:List Sess),Del (fun s => !p s) l q j R ∧ n = l.length - j ∧ σ = ⟨[(0,.os 0 0 l.length),(1,.clo (.func g) [] cap),(5,.v (.int .i64 (q:Int))),(6,.v (.int .i64 (j:Int)))],[(0,.own false 5 (R.map Sess.row))],1⟩) (l.length - (k + 1)) ⟨k + 1,k,l,Del.start hk (List.all_eq_true.2 (fun s hs=>by simp [h2 s hs])) (by simp [h3]),rfl,rfl⟩ ?_;rintro n σ ⟨j,q,R,hD,rfl,rfl⟩;have hlen:=hD.len;have hle:=hD.le;have hjn:=hD.jn;by_cases hlt:j < l.length
  ·have hcj:=hc l[j] (List.getElem_mem _);have hRj:=hD.at hlt;have hr:=qK (f:=Sess.row) (l:=R) (i:=j) (by omega);rw [hRj] at hr;have hr2:=qK (f:=Sess.row) (l:=R) (i:=q) (by omega)
   repeat' (first|refine qg ?_|(first|(refine vq ?_)|(apply qa;apply zZ [];rfl;exact hg;exact hcj;(case hz=>exact qeZ);(case hfl=>rfl);(case hN=>exact nle rfl)))|(refine xsS ?_ ?_;all_goals first|exact False.elim|intro hp hc)|refine xsA ?_ ?_)
   all_goals try (exfalso;omega)
   ·refine ⟨l.length - (j + 1),_,by omega,jH (τ:=⟨[(0,.os 0 0 l.length),(1,.clo (.func g) [] cap),(5,.v (.int .i64 ((q + 1:Nat):Int))),(6,.v (.int .i64 ((j + 1:Nat):Int)))],[(0,.own false 5 ((R.set q l[j]).map Sess.row))],1⟩) [] rfl ?gts ?ghs,j + 1,q + 1,R.set q l[j],hD.keep hlt (by simp [hp]),rfl,rfl⟩
    case gts=>(repeat (first|exact qx|refine jz ?_|refine wm ?_|refine qcB ?_|refine xy ?_ ?_))
    case ghs =>
     (repeat (first|exact qn|refine J8 ?_|refine vH ?_ ?_))
     rw [List.map_set];rfl
   ·refine ⟨l.length - (j + 1),_,by omega,jH (τ:=⟨[(0,.os 0 0 l.length),(1,.clo (.func g) [] cap),(5,.v (.int .i64 (q:Int))),(6,.v (.int .i64 ((j + 1:Nat):Int)))],[(0,.own false 5 (R.map Sess.row))],1⟩) [] rfl ?gts ?ghs,j + 1,q,R,hD.drop hlt (by simp [hp]),rfl,rfl⟩
    case gts=>(repeat (first|exact qx|refine jz ?_|refine wm ?_|refine qcB ?_|refine xy ?_ ?_))
    case ghs=>(repeat (first|exact qn|refine J8 ?_|refine vH ?_ ?_))
  have hRq:=hD.end_ hlt;have hql:(l.filter (fun s => !p s)).length = q:=by rw [← hRq];simp;omega
  repeat' (first|refine qg ?_|(first|(refine YQ ?_)|(refine qhB ?_))|(refine xsS ?_ ?_;all_goals first|exact False.elim|intro hp hc)|refine xsA ?_ ?_)
  all_goals try (exfalso;omega)
  rw [hql]
  (exact yp (rs:=[.tmp 4]) [] 1 (by (repeat (first|exact qn|refine J8 ?_|refine vH ?_ ?_));all_goals (rw [Nat.zero_add,List.drop_eq_nil_of_le (by simp;omega),List.append_nil, ← List.map_take,hRq,WB,hql,List.map_append,List.map_replicate];rfl)))
theorem qjZ (s:Sess) (now:Int):jN C.P 214 [.agg s.row,.fp [[.v (.int .i64 now)]] 0 0] (.v (.bool (!VQ now s))):=by
 refine qJ 0 ?_
 repeat' (first|refine qg ?_|fail|(refine xsS ?_ ?_;all_goals first|exact False.elim|intro hp hc)|refine xsA ?_ ?_)
 all_goals (apply qR;rfl;rw [Bool.eq_iff_iff];simp [VQ])
def yf (l:List Sess) (now:Int):List Sess:=qt l now ++ List.replicate (l.length - (qt l now).length) zeroSess
theorem qce (l:List Sess) (now:Int):WB (fun s => !VQ now s) l = yf l now:=by simp [WB,yf,qt]
theorem qcm (l:List Sess) (now:Int):l.filter (fun s => !(fun s => !VQ now s) s) = qt l now:=by simp [qt]
theorem qms (u:Upl) (now:Int) (hl:u.sess.length ≤ 1000000) :
  qf C.P 177 [vt u,.v (.int .i64 now)] [] (.agg [.os 0 0 (qt u.sess now).length,.v (.int .i64 u.next),.v (.int .i64 u.lasts),.v (.int .i64 u.room)]) [.own false 5 ((yf u.sess now).map Sess.row)]:=by
 have hdel:=qe7 (fun s => !VQ now s) 214 (qr Tryz.func214 rfl rfl) [.fp [[.v (.int .i64 now)]] 0 0] rfl u.sess hl (fun s _=>qjZ s now);rw [qce,qcm] at hdel;refine qJ 0 ?_
 (repeat apply jW);refine qO ?_;(repeat' (first|apply qF|refine wJ ?_|refine J4 ?_|refine YN ?_|refine Jt ?_|refine wI ?_|refine zK ?_|(first|fail)|refine xY ?_));show Awp _ _ _ _ _
 refine Ym 3 1 ?_
 repeat' (first|refine qg ?_|(first|(refine jP ([]) qi (qdc u.sess hl ..) ?_)|(refine Q8 ([3]) 3 qi (hdel ..) ?_))|(refine xsS ?_ ?_;all_goals first|exact False.elim|intro hp hc)|refine xsA ?_ ?_)
 (exact yp (rs:=[.cell 4 26]) [(3,0)] 1 qav)
def qhP (u:Upl) (now:Int) (n:Nat):AV := .agg [.os n 0 (qt u.sess now).length,.v (.int .i64 u.next),.v (.int .i64 u.lasts),.v (.int .i64 u.room)]
theorem Ke (u:Upl) (hu:UBig u) (now:Int) (he:qQ u now ≠ 0):jN C.P 146 [vt u,.v (.int .i64 now)] (.tup [vt Xt,.v (.int .i64 (qQ u now))]):=by
 refine qJ 0 ?_
 repeat' (first|refine qg ?_|(first|refine jT (K7 u hu ..) ?_|refine jT (QU ..) ?_)|(refine xsS ?_ ?_;all_goals first|exact False.elim|intro hp hc)|refine xsA ?_ ?_)
 ·have h1:qQ u now = yu u:=by simp_all [qQ]
  rw [h1]
  (exact kw (rs:=[.cell 4 26,.tmp 5]))
 ·have h1:qQ u now = 3:=by simp_all [qQ]
  rw [h1]
  (exact kw (rs:=[.cell 4 26,.tmp 5]))
 ·exfalso;simp_all [qQ]
theorem XF (u:Upl) (hu:UBig u) (now:Int) (he:qQ u now = 0):qf C.P 146 [vt u,.v (.int .i64 now)] [] (.tup [qhP u now 0,.v (.int .i64 0)]) [.own false 5 ((yf u.sess now).map Sess.row)]:=by
 have hl6:u.sess.length ≤ 1000000:=by have:=(uok he).len;omega
 have h0:=(XK he).1;refine qJ 0 ?_
 repeat' (first|refine qg ?_|(first|refine jT (K7 u hu ..) ?_|refine jT (QU ..) ?_|(refine jP ([]) qi (qms u now hl6 ..) ?_))|(refine xsS ?_ ?_;all_goals first|exact False.elim|intro hp hc)|refine xsA ?_ ?_)
 all_goals try (exfalso;simp_all [qQ];done)
 (exact yp (rs:=[.cell 4 26,.tmp 5]) [(2,0)] 1 qav)
theorem zi (l:List Sess) (now:Int):((yf l now).map Sess.row).take (qt l now).length = (qt l now).map Sess.row:=by
 unfold yf;rw [List.map_append,List.take_append_of_le_length (by simp),Qc]
theorem ku (l:List Sess) (now:Int):(qt l now).length ≤ (yf l now).length:=by simp [yf]
theorem Ze {h:Nat → HB} {n:Nat} {l:List Sess} {now:Int} (hn:h n = .own false 5 ((yf l now).map Sess.row)):Rz h (.os n 0 (qt l now).length) (.sl false ((qt l now).map Sess.row)):=by
 refine qbJ hn (by simpa using ku l now) ?_;rw [List.drop_zero,zi];exact QQ fun _=>rfl
theorem qjC {a b c:Int} (h:qq a b c = true):b ≤ a ∧ a ≤ c:=by simpa [qq] using h
theorem qi4 {u:Upl} {who:qb} {size now:Int} (hb0:qQ u now = 0) (h:qj who = false):yi u who size now = 1:=by simp [yi,hb0,h]
theorem qf3 {u:Upl} {who:qb} {size now:Int} (hb0:qQ u now = 0) (hnm:qj who = true) (h:qq size 0 300 = false):yi u who size now = 3:=by
 have hor:size < 0 ∨ 300 < size ∨ u.next = 1099511627776:=by simp [qq] at h;omega
 simp only [yi,hb0,hnm,hor,if_true]
theorem qf4 {u:Upl} {who:qb} {size now:Int} (hb0:qQ u now = 0) (hnm:qj who = true) (h:u.next = 1099511627776):yi u who size now = 3:=by
 have hor:size < 0 ∨ 300 < size ∨ u.next = 1099511627776 := .inr (.inr h);simp only [yi,hb0,hnm,hor,if_true]
theorem ZX {u:Upl} {who:qb} {size now:Int} (hb0:qQ u now = 0) (hnm:qj who = true) (hwi:qq size 0 300 = true) (hnx:¬ u.next = 1099511627776):yi u who size now = if (qt u.sess now).length = 20 then 2 else if u.room < jQ (qt u.sess now) who + size then 10 else 0:=by
 have hor:¬ (size < 0 ∨ 300 < size ∨ u.next = 1099511627776):=by simp [qq] at hwi;omega
 simp only [yi,hb0,hnm,hor,if_true,if_false]
theorem qi5 {u:Upl} {who:qb} {size now:Int} (hb0:qQ u now = 0) (hnm:qj who = true) (hwi:qq size 0 300 = true) (hnx:¬ u.next = 1099511627776) (h:((qt u.sess now).length:Int) = 20):yi u who size now = 2:=by
 rw [ZX hb0 hnm hwi hnx,if_pos (by omega)]
theorem qf2 {u:Upl} {who:qb} {size now:Int} (hb0:qQ u now = 0) (hnm:qj who = true) (hwi:qq size 0 300 = true) (hnx:¬ u.next = 1099511627776) (h:¬ ((qt u.sess now).length:Int) = 20) (h' : u.room < jQ (qt u.sess now) who + size):yi u who size now = 10:=by
 rw [ZX hb0 hnm hwi hnx,if_neg (by omega),if_pos h']
theorem qi3 {u:Upl} {who:qb} {size now:Int} (hb0:qQ u now = 0) (hnm:qj who = true) (hwi:qq size 0 300 = true) (hnx:¬ u.next = 1099511627776) (h:¬ ((qt u.sess now).length:Int) = 20) (h' : jQ (qt u.sess now) who + size ≤ u.room):yi u who size now = 0:=by
 rw [ZX hb0 hnm hwi hnx,if_neg (by omega),if_neg (by omega)]
theorem qjS (u:Upl) (hu:UBig u) (who:qb) (hw:who.length ≤ 9223372036854775807) (size now:Int) :
  jN C.P 101 [vt u,.v (str who),.v (.int .i64 size),.v (.int .i64 now)] (ZW u who size now):=by
 by_cases hb0:qQ u now = 0
 ·have ok:=uok hb0;have hss : ∀ s,s ∈ qt u.sess now → 0 ≤ s.size ∧ s.size ≤ 300:=fun s hs=>ok.sz s (Ye hs)
  have hsl:(qt u.sess now).length ≤ 20:=Nat.le_trans (QR _ _) ok.len;have hsr:=ku u.sess now;have hob:=qbx who hss;obtain ⟨n0,n1,l0,l1,r0,r1,x0,x1,_,_⟩:=ok;refine qJ 0 ?_
  repeat' (first|refine qg ?_|(first|(refine jP ([]) qi (XF u hu now hb0 ..) ?_)|refine jT (Vf _ hw ..) ?_|refine jT (QU ..) ?_|(apply qa;apply yJ [2];exact qr Tryz.func121 rfl rfl;apply qlY (qt u.sess now) who hss (by omega);(case hz=>exact qH (Ze rfl) (qH (ju rfl) jX));(case hfl=>rfl);(case hN=>exact nle rfl))|(refine jd ?_)|(refine vF ?_)|(refine (fun (hsz:0 ≤ size ∧ size ≤ 300)=>?_) (qjC ?_);rotate_left;assumption;apply qa;apply Zz;rfl;rfl;omega;omega;exact nle rfl))|(refine xsS ?_ ?_;all_goals first|exact False.elim|intro hp hc)|refine xsA ?_ ?_)
  all_goals try (exfalso;simp_all;done)
  all_goals first
   | (refine vv (kJ (qi4 hb0 ?_) ?_) ?_;assumption;decide;(exact kw (rs:=[.cell 8 26,.tmp 9,.tmp 10])))
   | (refine vv (kJ (qf3 hb0 ?_ ?_) ?_) ?_;assumption;assumption;decide;(exact kw (rs:=[.cell 8 26,.tmp 9,.tmp 10])))
   | (refine vv (kJ (qf4 hb0 ?_ ?_) ?_) ?_;assumption;assumption;decide;(exact kw (rs:=[.cell 8 26,.tmp 9,.tmp 10])))
   | (refine vv (kJ (qi5 hb0 ?_ ?_ ?_ ?_) ?_) ?_;assumption;assumption;assumption;assumption;decide;(exact kw (rs:=[.cell 8 26,.tmp 9,.tmp 10])))
   | (refine vv (kJ (qf2 hb0 ?_ ?_ ?_ ?_ ?_) ?_) ?_;assumption;assumption;assumption;assumption;assumption;decide;(exact kw (rs:=[.cell 8 26,.tmp 9,.tmp 10])))
   | skip
  refine vv (qi2 (qi3 hb0 ?_ ?_ ?_ ?_ ?_)) ?_
  iterate 5 first|assumption|omega
  (exact Jd (rs:=[.cell 8 26,.tmp 9,.tmp 10]) (hz:=by (repeat' (first|exact jX|apply qH|exact ju rfl|exact zP|exact Kc|apply vn|apply kP|apply vo|apply kN|apply vR|apply kO|refine Kb ?_|apply JD));all_goals (rw [zi,show (VZ u who size now).sess = qt u.sess now ++ [⟨u.next,who,[],size,now + u.lasts⟩] from rfl,List.map_append];rfl)))
 ·refine qJ 0 ?_
  repeat' (first|refine qg ?_|(first|refine yS (Ke u hu now hb0 ..) ?_)|(refine xsS ?_ ?_;all_goals first|exact False.elim|intro hp hc)|refine xsA ?_ ?_)
  all_goals try (exfalso;simp_all;done)
  rw [kJ (e:=qQ u now) (by simp [yi,hb0]) hb0]
  (exact kw (rs:=[.cell 8 26,.tmp 9,.tmp 10]))
def jM (u:Upl) (who:qb) (number now:Int):Int :=
 if qQ u now = 0 then
  if qj who then
   if yN (zu who number) (qt u.sess now) < 0 then 5 else 0
  else 1
 else qQ u now
theorem qg1 (s:Sess) (who:qb) (number:Int):jN C.P 179 [.agg s.row,.fp [[.v (.int .i64 number)]] 0 0,.fp [[.v (str who)]] 0 0] (.v (.bool (zu who number s))):=by
 refine qJ 0 ?_
 repeat' (first|refine qg ?_|fail|(refine xsS ?_ ?_;all_goals first|exact False.elim|intro hp hc)|refine xsA ?_ ?_)
 all_goals (apply qR;rfl;simp_all [zu])
theorem XG (u:Upl) (hu:UBig u) (who:qb) (hw:who.length ≤ 9223372036854775807) (number now:Int) (he:jM u who number now ≠ 0) :
  jN C.P 147 [vt u,.v (str who),.v (.int .i64 number),.v (.int .i64 now)] (JG Xt 0 (jM u who number now)):=by
 by_cases hb0:qQ u now = 0
 ·have ok:=uok hb0;have hl6:(qt u.sess now).length ≤ 1000000:=by have:=QR u.sess now;have:=ok.len;omega
  have hidx:=Zs (zu who number) 179 (qr Tryz.func179 rfl rfl) [.fp [[.v (.int .i64 number)]] 0 0,.fp [[.v (str who)]] 0 0] rfl (qt u.sess now) hl6 (fun s _=>qg1 s who number);refine qJ 0 ?_
  (repeat apply jW);refine qO ?_;(repeat' (first|apply qF|refine wk ?_|refine we ?_|refine wJ ?_|refine J4 ?_|refine wi ?_|refine YO ?_|refine wj ?_|refine X1 ?_|refine qos ?_|refine J6 ?_|refine VY ?_|refine qor ?_|refine YN ?_|refine ZV ?_|refine ZU ?_|refine Jt ?_|refine wI ?_|refine zK ?_|(first|fail)|refine xY ?_|refine vA ?_|refine vz ?_|refine xL ?_|refine xK ?_|refine kZ ?_|refine k9 ?_|refine vy ?_|refine vx ?_|((first|refine vl ?_ ?_|refine vk ?_ ?_);all_goals (intro hc;have hp:=hc;first|(simp at hp;done)|((try simp at hp);first|(exfalso;omega)|skip)))));show Awp _ _ _ _ _
  refine Ym 5 1 ?_;refine Ym 6 2 ?_
  repeat' (first|refine qg ?_|(first|(refine jP ([]) qi (XF u hu now hb0 ..) ?_)|refine jT (Vf _ hw ..) ?_|(apply qa;apply yJ [4];exact qr Tryz.func178 rfl rfl;exact hidx;(case hz=>exact qH (Ze rfl) (qH (zO rfl) jX));(case hfl=>rfl);(case hN=>exact nle rfl)))|(refine xsS ?_ ?_;all_goals first|exact False.elim|intro hp hc)|refine xsA ?_ ?_)
  all_goals try (exfalso;simp_all;done)
  ·have h1:jM u who number now = 1:=by simp [jM,hb0,hp]
   rw [h1]
   (exact kw (rs:=[.cell 8 26,.tmp 9,.tmp 10]))
  ·have hnm:qj who = true:=by assumption
   have h1:jM u who number now = 5:=by simp [jM,hb0,hnm,hp]
   rw [h1]
   (exact kw (rs:=[.cell 8 26,.tmp 9,.tmp 10]))
  ·exfalso;have hnm:qj who = true:=by assumption
   have:¬ yN (zu who number) (qt u.sess now) < 0:=by omega
   exact he (by simp [jM,hb0,hnm,this])
 ·refine qJ 0 ?_
  repeat' (first|refine qg ?_|(first|refine yS (Ke u hu now hb0 ..) ?_)|(refine xsS ?_ ?_;all_goals first|exact False.elim|intro hp hc)|refine xsA ?_ ?_)
  all_goals try (exfalso;simp_all;done)
  rw [show jM u who number now = qQ u now from by simp [jM,hb0]]
  (exact kw (rs:=[.cell 8 26,.tmp 9,.tmp 10]))
theorem Y7 (u:Upl) (hu:UBig u) (who:qb) (hw:who.length ≤ 9223372036854775807) (number now:Int) (hb0:qQ u now = 0) (hnm:qj who = true) (k:Nat) (hk:yN (zu who number) (qt u.sess now) = k) :
  qf C.P 147 [vt u,.v (str who),.v (.int .i64 number),.v (.int .i64 now)] [] (.tup [qhP u now 0,.v (.int .i64 k),.v (.int .i64 0)]) [.own false 5 ((yf u.sess now).map Sess.row)]:=by
 have ok:=uok hb0;have hl6:(qt u.sess now).length ≤ 1000000:=by have:=QR u.sess now;have:=ok.len;omega
 have hidx:=Zs (zu who number) 179 (qr Tryz.func179 rfl rfl) [.fp [[.v (.int .i64 number)]] 0 0,.fp [[.v (str who)]] 0 0] rfl (qt u.sess now) hl6 (fun s _=>qg1 s who number);rw [hk] at hidx;refine qJ 0 ?_
 (repeat apply jW);refine qO ?_;(repeat' (first|apply qF|refine wk ?_|refine we ?_|refine wJ ?_|refine J4 ?_|refine wi ?_|refine YO ?_|refine wj ?_|refine X1 ?_|refine qos ?_|refine J6 ?_|refine VY ?_|refine qor ?_|refine YN ?_|refine ZV ?_|refine ZU ?_|refine Jt ?_|refine wI ?_|refine zK ?_|(first|fail)|refine xY ?_|refine vA ?_|refine vz ?_|refine xL ?_|refine xK ?_|refine kZ ?_|refine k9 ?_|refine vy ?_|refine vx ?_|((first|refine vl ?_ ?_|refine vk ?_ ?_);all_goals (intro hc;have hp:=hc;first|(simp at hp;done)|((try simp at hp);first|(exfalso;omega)|skip)))));show Awp _ _ _ _ _
 refine Ym 5 1 ?_;refine Ym 6 2 ?_
 repeat' (first|refine qg ?_|(first|(refine jP ([]) qi (XF u hu now hb0 ..) ?_)|refine jT (Vf _ hw ..) ?_|(apply qa;apply yJ [4];exact qr Tryz.func178 rfl rfl;exact hidx;(case hz=>exact qH (Ze rfl) (qH (zO rfl) jX));(case hfl=>rfl);(case hN=>exact nle rfl)))|(refine xsS ?_ ?_;all_goals first|exact False.elim|intro hp hc)|refine xsA ?_ ?_)
 all_goals try (exfalso;simp_all;done)
 all_goals try (exfalso;omega)
 (exact yp (rs:=[.cell 8 26,.tmp 9,.tmp 10]) [(4,0)] 1 qav)
theorem Y2 {l:List Sess} {now:Int} {k:Nat} {s:Sess} (h:(qt l now)[k]? = some s):((yf l now).map Sess.row)[k]? = some s.row:=by
 unfold yf;rw [List.map_append,List.getElem?_append_left (by have:=(List.getElem?_eq_some_iff.1 h).1;simpa using this),List.getElem?_map,h];rfl
theorem qdp (u:Upl) (hu:UBig u) (who:qb) (hw:who.length ≤ 9223372036854775807) (number now:Int) (he:jM u who number now ≠ 0) :
  jN C.P 103 [vt u,.v (str who),.v (.int .i64 number),.v (.int .i64 now)] (.tup [.v (.int .i64 0),.v (.int .i64 (jM u who number now))]):=by
 refine qJ 0 ?_
 repeat' (first|refine qg ?_|(first|refine yS (XG u hu who hw number now he ..) ?_)|(refine xsS ?_ ?_;all_goals first|exact False.elim|intro hp hc)|refine xsA ?_ ?_)
 all_goals try (exfalso;simp_all;done)
 (exact kw (rs:=[.tmp 8,.tmp 9]))
theorem qff (u:Upl) (hu:UBig u) (who:qb) (hw:who.length ≤ 9223372036854775807) (number now:Int) (hb0:qQ u now = 0) (hnm:qj who = true) (k:Nat) (hk:yN (zu who number) (qt u.sess now) = k) (s:Sess) (hs:(qt u.sess now)[k]? = some s) (_hst:s.text.length ≤ 9223372036854775807) :
  jN C.P 103 [vt u,.v (str who),.v (.int .i64 number),.v (.int .i64 now)] (.tup [.v (.int .i64 s.text.length),.v (.int .i64 0)]):=by
 have hkl:k < (qt u.sess now).length:=(List.getElem?_eq_some_iff.1 hs).1;have hr:=Y2 hs;refine qJ 0 ?_
 repeat' (first|refine qg ?_|(first|(refine jP ([]) qi (Y7 u hu who hw number now hb0 hnm k hk ..) ?_)|(refine vq ?_))|(refine xsS ?_ ?_;all_goals first|exact False.elim|intro hp hc)|refine xsA ?_ ?_)
 all_goals try (exfalso;simp_all;done)
 (exact kw (rs:=[.tmp 8,.tmp 9]))
def kD (t:qb) (offset:Int) (x:qb):Bool:=qq offset 0 t.length && decide (t.drop offset.toNat = x)
def Jg (s:Sess) (offset:Int) (text:qb):Int:=if kD s.text offset text then 0 else if offset = s.text.length then (if s.size < s.text.length + text.length then 2 else 0) else 4
def Xs (s:Sess) (offset:Int) (text:qb) (till:Int):Sess:=if kD s.text offset text then s else { s with text:=s.text ++ text,till:=till }
def Kg (u:Upl) (k:Nat) (s:Sess) (offset:Int) (text:qb) (now:Int):AV :=
 if Jg s offset text = 0 then JG { u with sess:=(qt u.sess now).set k (Xs s offset text (now + u.lasts)) } (Xs s offset text (now + u.lasts)).text.length 0 else JG Xt 0 (Jg s offset text)
theorem Zu {u:Upl} {k:Nat} {s:Sess} {offset:Int} {text:qb} {now e:Int} (h:Jg s offset text = e) (h0:e ≠ 0):Kg u k s offset text now = JG Xt 0 e:=by unfold Kg;rw [h,if_neg h0]
theorem qdu {u:Upl} {k:Nat} {s:Sess} {offset:Int} {text:qb} {now:Int} (h:kD s.text offset text = true) (hs:(qt u.sess now)[k]? = some s):Kg u k s offset text now = JG (X8 u now) s.text.length 0:=by
 unfold Kg Jg Xs;simp only [h,if_true];obtain ⟨hk,e⟩:=List.getElem?_eq_some_iff.1 hs;rw [← e,List.set_getElem_self];rfl
theorem qio {u:Upl} {k:Nat} {s:Sess} {offset:Int} {text:qb} {now:Int} (h:kD s.text offset text = false) (h1:offset = s.text.length) (h2:¬ s.size < s.text.length + text.length) :
  Kg u k s offset text now = JG { u with sess:=(qt u.sess now).set k { s with text:=s.text ++ text,till:=now + u.lasts } } (s.text ++ text).length 0:=by
 have he:Jg s offset text = 0:=by unfold Jg;rw [h,if_neg (by simp),if_pos h1,if_neg h2]
 unfold Kg;rw [if_pos he];unfold Xs;rw [h,if_neg (by simp)]
theorem qj8 {s:Sess} {offset:Int} {text:qb} (h:kD s.text offset text = false) (h1:¬ offset = s.text.length):Jg s offset text = 4:=by unfold Jg;rw [h,if_neg (by simp),if_neg h1]
theorem qoa {s:Sess} {offset:Int} {text:qb} (h:kD s.text offset text = false) (h1:offset = s.text.length) (h2:(s.size < s.text.length + text.length)):Jg s offset text = 2:=by unfold Jg;rw [h,if_neg (by simp),if_pos h1,if_pos h2]
theorem qcS {h:Nat → HB} {n k:Nat} {l:List Sess} {now:Int} {s:Sess} {row:List AV} (hn:h n = .own false 5 (((yf l now).map Sess.row).set k row)) (hrow:row = s.row):Rz h (.os n 0 (qt l now).length) (.sl false (((qt l now).set k s).map Sess.row)):=by
 subst hrow;have hlen:=ku l now;refine qbJ hn (by simpa using hlen) ?_;rw [List.drop_zero,List.take_set,zi, ← List.map_set];exact QQ fun _=>rfl
theorem qaY {h:Nat → HB} {n k:Nat} {l:List Sess} {now:Int} {s:Sess} {row0 row:List AV} (hn:h n = .own false 5 ((((yf l now).map Sess.row).set k row0).set k row)) (hrow:row = s.row):Rz h (.os n 0 (qt l now).length) (.sl false (((qt l now).set k s).map Sess.row)):=by
 rw [List.set_set] at hn;exact qcS hn hrow
theorem qc8 (u:Upl) (hu:UBig u) (who:qb) (hw:who.length ≤ 9223372036854775807) (number now:Int) (hb0:qQ u now = 0) (hnm:qj who = true) (k:Nat) (hk:yN (zu who number) (qt u.sess now) = k) (s:Sess) (hs:(qt u.sess now)[k]? = some s) (hst:s.text.length ≤ 1000)
  (offset:Int) (text:qb) (htx:text.length ≤ 140737488355328) :
  jN C.P 102 [vt u,.v (str who),.v (.int .i64 number),.v (.int .i64 offset),.v (str text),.v (.int .i64 now)] (Kg u k s offset text now):=by
 have ok:=uok hb0;have hkl:k < (qt u.sess now).length:=(List.getElem?_eq_some_iff.1 hs).1;have hr:=Y2 hs;obtain ⟨n0,n1,l0,l1,r0,r1,x0,x1,_,_⟩:=ok;by_cases hin:qq offset 0 s.text.length = true
 ·obtain ⟨n,rfl⟩ : ∃ n:Nat,offset = n:=⟨offset.toNat,by simp [qq] at hin;omega⟩
  have hnl:n ≤ s.text.length:=by simp [qq] at hin;omega
  have hag:kD s.text n text = decide ((s.text.take s.text.length).drop n = text):=by simp [kD,hin]
  refine qJ 0 ?_
  repeat' (first|refine qg ?_|(first|(refine jP ([]) qi (Y7 u hu who hw number now hb0 hnm k hk ..) ?_)|(refine vq ?_)|refine jT (QU ..) ?_|(refine qhD ?_))|(refine xsS ?_ ?_;all_goals first|exact False.elim|intro hp hc)|refine xsA ?_ ?_)
  all_goals try (exfalso;simp_all;done)
  ·have ha:kD s.text n text = true:=hag.trans hc;refine vv (qdu ha hs) ?_
   (exact Jd (rs:=[.cell 12 26,.tmp 13,.tmp 14]) (hz:=by (repeat' (first|(apply Ze;rfl)|exact jX|apply qH|exact ju rfl|exact zP|exact Kc|apply vn|apply kP|apply vo|apply kN|apply vR|apply kO|refine Kb ?_|apply JD));all_goals trace_state))
  all_goals have ha:kD s.text n text = false:=hag.trans (by assumption)
  ·refine vv (Zu (qj8 ha hp) (by decide)) ?_
   (exact kw (rs:=[.cell 12 26,.tmp 13,.tmp 14]))
  ·refine vv (Zu (qoa ha (by assumption) hp) (by decide)) ?_
   (exact kw (rs:=[.cell 12 26,.tmp 13,.tmp 14]))
  ·refine vv (qio ha (by assumption) (by omega)) ?_
   (exact Jd (rs:=[.cell 12 26,.tmp 13,.tmp 14]) (hz:=by (repeat' (first|(apply qaY;(case hn=>rfl);(case hrow=>rfl))|exact jX|apply qH|exact ju rfl|exact zP|exact Kc|apply vn|apply kP|apply vo|apply kN|apply vR|apply kO|refine Kb ?_|apply JD));all_goals trace_state))
 ·have hin:qq offset 0 s.text.length = false:=by simpa using hin
  have ha:kD s.text offset text = false:=by simp [kD,hin]
  refine qJ 0 ?_
  repeat' (first|refine qg ?_|(first|(refine jP ([]) qi (Y7 u hu who hw number now hb0 hnm k hk ..) ?_)|(refine vq ?_)|refine jT (QU ..) ?_)|(refine xsS ?_ ?_;all_goals first|exact False.elim|intro hp hc)|refine xsA ?_ ?_)
  all_goals try (exfalso;simp_all;done)
  ·refine vv (Zu (qj8 ha hp) (by decide)) ?_
   (exact kw (rs:=[.cell 12 26,.tmp 13,.tmp 14]))
  all_goals (exfalso;simp [qq] at hin;omega)
theorem qbT (u:Upl) (hu:UBig u) (who:qb) (hw:who.length ≤ 9223372036854775807) (number now:Int) (he:jM u who number now ≠ 0) (offset:Int) (text:qb) :
  jN C.P 102 [vt u,.v (str who),.v (.int .i64 number),.v (.int .i64 offset),.v (str text),.v (.int .i64 now)] (JG Xt 0 (jM u who number now)):=by
 refine qJ 0 ?_
 repeat' (first|refine qg ?_|(first|refine yS (XG u hu who hw number now he ..) ?_)|(refine xsS ?_ ?_;all_goals first|exact False.elim|intro hp hc)|refine xsA ?_ ?_)
 all_goals try (exfalso;simp_all;done)
 (exact kw (rs:=[.cell 12 26,.tmp 13,.tmp 14]))
end Go.Proofs.YtgcncinnlmjgdaaGreatDoor
