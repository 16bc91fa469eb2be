import Derived.Test.YtiljlcgmcmjcoaaGreatDoorTy
import Derived.Test.YtiljlcgmcmjcoaaGreatDoorMz0
import Derived.Test.YtiljlcgmcmjcoaaGreatDoorMz4
import Derived.Test.YtiljlcgmcmjcoaaGreatDoorMz6
import Derived.Test.YtiljlcgmcmjcoaaGreatDoorMz1
set_option linter.unusedSimpArgs false
set_option linter.unnecessarySimpa false
namespace Go.Proofs.YtiljlcgmcmjcoaaGreatDoor
open Go.Ab Go.RowKit
noncomputable def C1:Cx := { C with nh:=1 }
theorem w8 {α:Type} {f:α → List AV} {ok:α → Prop} : ∀ {rows:List (List AV)},(∀ row,row ∈ rows → ∃ a,row = f a ∧ ok a) → ∃ l:List α,rows = l.map f ∧ ∀ a,a ∈ l → ok a
 | [],_=>⟨[],rfl,fun a h=>by cases h⟩
 | row :: rows,h=>by
   obtain ⟨a,rfl,ha⟩:=h row (List.mem_cons_self ..)
   obtain ⟨l,rfl,hl⟩:=w8 fun r hr=>h r (List.mem_cons_of_mem _ hr)
   exact ⟨a :: l,rfl,fun b hb=>by rcases List.mem_cons.1 hb with rfl|hb;exact ha;exact hl b hb⟩
theorem vA (s:qC) (hs:s.length ≤ 140737488355328):jO C.P 37 [.v (str s)] (.v (.bool (ql s))):=wA rfl fun w=>Q4 s w (by omega)
theorem vU (s:qC) (hs:s.length ≤ 140737488355328):jO C.P 25 [.v (str s)] (.v (.bool (ql s))):=wA rfl fun w=>VL s w (by omega)
end Go.Proofs.YtiljlcgmcmjcoaaGreatDoor
set_option linter.unusedSimpArgs false
set_option linter.unnecessarySimpa false
namespace Go.Proofs.YtiljlcgmcmjcoaaGreatDoor
open Go.Ab Go.RowKit
theorem vu {n:Nat} {xs:List AV} (h:kp C.tab 1000000000 n 3 xs) : ∃ a,xs = [.v (.int .i64 a)] ∧ (Lit.int .i64 a).wf = true:=by
 cases n with
 | zero=>exact h.elim
 | succ n=>exact h
theorem vO {n:Nat} {xs:List AV} (h:kp C.tab 1000000000 n 9 xs) : ∃ s:qC,xs = [.v (str s)] ∧ s.length ≤ 1000000000:=by
 cases n with
 | zero=>exact h.elim
 | succ n=>exact h
theorem qgr {n:Nat} {xs:List AV} (h:kp C.tab 1000000000 n 4 xs) : ∃ b,xs = [.v (.bool b)]:=by
 cases n with
 | zero=>exact h.elim
 | succ n=>exact h
def Ent.row (e:Ent):List AV:=[.v (str e.path),.v (.bool e.fold),.v (str e.text),.v (.int .i64 e.ver)]
def Ent.small (e:Ent):Prop:=e.path.length ≤ 1000000000 ∧ e.text.length ≤ 1000000000
def qr (t:List Ent):AV := .sl false (t.map Ent.row)
structure EBig (t:List Ent):Prop where
 each : ∀ e,e ∈ t → e.small
 len:t.length ≤ 1000000000
def Chg.row (c:Chg):List AV:=[.v (.int .i64 c.kind),.v (str c.path),.v (str c.to),.v (str c.text),.v (.int .i64 c.base)]
def Chg.small (c:Chg):Prop:=c.path.length ≤ 1000000000 ∧ c.to.length ≤ 1000000000 ∧ c.text.length ≤ 1000000000
def xu (t:List Chg):AV := .sl false (t.map Chg.row)
structure CBig (t:List Chg):Prop where
 each : ∀ e,e ∈ t → e.small
 len:t.length ≤ 1000000000
theorem qhs {n:Nat} {xs:List AV} (h:kp C.tab 1000000000 n 72 xs) : ∃ s:Ent,xs = s.row ∧ s.small:=by
 cases n with
 | zero=>exact h.elim
 | succ n =>
   obtain ⟨_,_,rfl,h0,_,_,rfl,h1,_,_,rfl,h2,_,_,rfl,h3,rfl⟩:=(show wv C.tab 0 _ = some _ → X3 (kp C.tab 1000000000 n) [(0,9),(1,4),(2,9),(3,3)] xs from h) rfl
   obtain ⟨a0,rfl,l0⟩:=vO h0
   obtain ⟨a1,rfl⟩:=qgr h1
   obtain ⟨a2,rfl,l2⟩:=vO h2
   obtain ⟨a3,rfl,_⟩:=vu h3
   exact ⟨⟨a0,a1,a2,a3⟩,rfl,l0,l2⟩
theorem qh1 {n:Nat} {xs:List AV} (h:kp C.tab 1000000000 n 81 xs) : ∃ s:Chg,xs = s.row ∧ s.small:=by
 cases n with
 | zero=>exact h.elim
 | succ n =>
   obtain ⟨_,_,rfl,h0,_,_,rfl,h1,_,_,rfl,h2,_,_,rfl,h3,_,_,rfl,h4,rfl⟩:=(show wv C.tab 0 _ = some _ → X3 (kp C.tab 1000000000 n) [(0,3),(1,9),(2,9),(3,9),(4,3)] xs from h) rfl
   obtain ⟨a0,rfl,_⟩:=vu h0
   obtain ⟨a1,rfl,l1⟩:=vO h1
   obtain ⟨a2,rfl,l2⟩:=vO h2
   obtain ⟨a3,rfl,l3⟩:=vO h3
   obtain ⟨a4,rfl,_⟩:=vu h4
   exact ⟨⟨a0,a1,a2,a3,a4⟩,rfl,l1,l2,l3⟩
end Go.Proofs.YtiljlcgmcmjcoaaGreatDoor
set_option linter.unusedSimpArgs false
set_option linter.unusedVariables false
namespace Go.Proofs.YtiljlcgmcmjcoaaGreatDoor
open Go.Ab Go.RowKit
theorem qf3 {n:Nat} {xs:List AV} (h:kp C.tab 1000000000 n 41 xs) : ∃ t:List Ent,xs = [qr t] ∧ EBig t:=by
 cases n with
 | zero=>exact h.elim
 | succ n =>
   obtain ⟨rows,he,hb,hr⟩:=(show (4:Nat) ≠ 0 → ∃ rows,xs = [AV.sl false rows] ∧ rows.length * 48 ≤ 1000000000 ∧ ∀ row,row ∈ rows → kp C.tab 1000000000 n 72 row from h) (by decide)
   obtain ⟨l,rfl,hl⟩:=w8 (f:=Ent.row) (ok:=Ent.small) (fun row hrow=>qhs (hr row hrow))
   refine ⟨l,he,hl,?_⟩
   simp at hb;omega
theorem qaN {n:Nat} {xs:List AV} (h:kp C.tab 1000000000 n 38 xs) : ∃ t:List Chg,xs = [xu t] ∧ CBig t:=by
 cases n with
 | zero=>exact h.elim
 | succ n =>
   obtain ⟨rows,he,hb,hr⟩:=(show (5:Nat) ≠ 0 → ∃ rows,xs = [AV.sl false rows] ∧ rows.length * 64 ≤ 1000000000 ∧ ∀ row,row ∈ rows → kp C.tab 1000000000 n 81 row from h) (by decide)
   obtain ⟨l,rfl,hl⟩:=w8 (f:=Chg.row) (ok:=Chg.small) (fun row hrow=>qh1 (hr row hrow))
   refine ⟨l,he,hl,?_⟩
   simp at hb;omega
end Go.Proofs.YtiljlcgmcmjcoaaGreatDoor
set_option linter.unusedSimpArgs false
set_option linter.unnecessarySimpa false
set_option maxHeartbeats 1000000
namespace Go.Proofs.YtiljlcgmcmjcoaaGreatDoor
open Go.Ab Go.RowKit
set_option maxRecDepth 10000
attribute [local irreducible] Awp ye ji qQ Red qF Go.Ab.Fin qo Rz xx qG qO ResOk jK je jX qW
def ws:qC:=[47]
theorem qh6 (s:qC):jO C.P 171 [.v (str s),.v (str ws)] (.v (.int .i64 (s.count 47:Nat))):=by
 refine qa Tryz.func171 rfl _ Tryz.ntmps171 (Nat.le_of_ble_eq_true rfl) _ Tryz.results171 0 rfl rfl ?_
 repeat' (first|refine qe ?_|(first|(apply qj;apply qhX;exact Tryz.func185;(case hname=>rfl);(case hb=>rfl);(case hnx=>rfl);(case hex=>rfl);(case hx=>rfl);(case hy=>rfl);(case hrun=>exact fun w=>Lib.run_countString _ _ w);(case hr=>rfl);(case hN=>exact nle rfl)))|((first|refine xsC ?_ ?_);all_goals (intro hc;have hp:=hc;try simp at hp;try (exfalso;omega)))|refine qp ?_ ?_)
 all_goals try (exfalso;simp_all [ws];done)
 all_goals (apply qE;rfl;simp [Lib.countByte])
theorem qg9 (s:qC):jO C.P 143 [.v (str s)] (.v (.bool (yF s))):=by
 have htg:=Jq s
 refine qa Tryz.func143 rfl _ Tryz.ntmps143 (Nat.le_of_ble_eq_true rfl) _ Tryz.results143 0 rfl rfl ?_
 repeat' (first|refine qe ?_|(first|refine xsF Tryz.func171 (qh6 s ..) ?_)|((first|refine qb ?_ ?_|refine qc ?_ ?_|refine xsC ?_ ?_);all_goals (intro hc;have hp:=hc;try simp at hp;try (exfalso;omega)))|refine qp ?_ ?_)
 all_goals (apply jd;rfl;rw [htg])
 all_goals first
  | (have h6:¬ 6 ≤ s.count 47:=(by omega)
     simp [h6];omega)
  | (have h6:6 ≤ s.count 47:=(by omega)
     simp [h6];done)
end Go.Proofs.YtiljlcgmcmjcoaaGreatDoor
set_option linter.unusedSimpArgs false
namespace Go.Proofs.YtiljlcgmcmjcoaaGreatDoor
open Go.Ab Go.RowKit
def Sess.row (s:Sess):List AV:=[.v (.int .i64 s.number),.v (str s.who),.v (str s.text),.v (.int .i64 s.size),.v (.int .i64 s.till)]
def Upl.row (u:Upl):List AV:=[.sl false (u.sess.map Sess.row),.v (.int .i64 u.next),.v (.int .i64 u.lasts),.v (.int .i64 u.room)]
def xw (u:Upl):AV := .agg u.row
def Sess.small (s:Sess):Prop:=s.who.length ≤ 140737488355328 ∧ s.text.length ≤ 140737488355328
structure UBig (u:Upl):Prop where
 who : ∀ s,s ∈ u.sess → s.who.length ≤ 9223372036854775807
 text : ∀ s,s ∈ u.sess → s.text.length ≤ 140737488355328
 len:u.sess.length ≤ 9223372036854775807
end Go.Proofs.YtiljlcgmcmjcoaaGreatDoor
set_option linter.unusedSimpArgs false
namespace Go.Proofs.YtiljlcgmcmjcoaaGreatDoor
open Go.Ab Go.RowKit
def Gra.row (g:Gra):List AV:=[.v (str g.folder),.v (str g.who),.v (.int .i64 g.right)]
def Gra.small (g:Gra):Prop:=g.folder.length ≤ 140737488355328 ∧ g.who.length ≤ 140737488355328
def q9 (l:List Gra):AV := .sl false (l.map Gra.row)
structure GBig (l:List Gra):Prop where
 each : ∀ g,g ∈ l → g.small
 len:l.length ≤ 140737488355328
def kQ (a b:Gra):Int:=if zm a.folder b.folder = 0 then zm a.who b.who else zm a.folder b.folder
end Go.Proofs.YtiljlcgmcmjcoaaGreatDoor
set_option linter.unusedVariables false
namespace Go.Proofs.YtiljlcgmcmjcoaaGreatDoor
open Go.Ab Go.RowKit
structure Rqt where
 kind:Int
 who:qC
 folder:qC
 name:qC
 key:qC
 text:qC
 number:Int
 offset:Int
 base:Int
 chs:List Chg
 deriving DecidableEq
def Rqt.row (r:Rqt):List AV:=[.v (.int .i64 r.kind),.v (str r.who),.v (str r.folder),.v (str r.name),.v (str r.key),.v (str r.text),.v (.int .i64 r.number),.v (.int .i64 r.offset),.v (.int .i64 r.base),xu r.chs]
end Go.Proofs.YtiljlcgmcmjcoaaGreatDoor
set_option maxHeartbeats 1000000
namespace Go.Proofs.YtiljlcgmcmjcoaaGreatDoor
open Go.Ab Go.RowKit
set_option maxRecDepth 10000
attribute [local irreducible] Awp ye ji qQ Red qF Go.Ab.Fin qo Rz xx qG qO ResOk jK je jX qW
theorem Xd (s:qC) (hs:s.length ≤ 9223372036854775807):jO C.P 37 [.v (str s)] (.v (.bool (ql s))):=wA rfl fun w=>Q4 s w hs
theorem xA (s:qC) (hs:s.length ≤ 9223372036854775807):jO C.P 25 [.v (str s)] (.v (.bool (ql s))):=wA rfl fun w=>VL s w hs
theorem Qb (a b c:Int):jO C.P 68 [.v (.int .i64 a),.v (.int .i64 b),.v (.int .i64 c)] (.v (.bool (qA a b c))):=by
 refine qa Tryz.func68 rfl _ Tryz.ntmps68 (Nat.le_of_ble_eq_true rfl) _ Tryz.results68 0 rfl rfl ?_
 repeat' (first|refine qe ?_|fail|((first|refine qb ?_ ?_|refine qc ?_ ?_|refine xsC ?_ ?_);all_goals (intro hc;have hp:=hc;try simp at hp;try (exfalso;omega)))|refine qp ?_ ?_)
 all_goals (apply jd;rfl;simp_all [qA];try omega)
theorem qfj (u:Upl) (s:Sess) (h1:1 ≤ u.next) (h2:u.next ≤ 1099511627776) (hs:s.who.length ≤ 9223372036854775807):jO C.P 69 [xw u,.agg s.row] (.v (.int .i64 (yj u.next s))):=by
 refine qa Tryz.func69 rfl _ Tryz.ntmps69 (Nat.le_of_ble_eq_true rfl) _ Tryz.results69 0 rfl rfl ?_
 repeat' (first|refine qe ?_|(first|refine xsF Tryz.func68 (Qb ..) ?_|refine xsF Tryz.func37 (Xd _ hs ..) ?_)|((first|refine qb ?_ ?_|refine qc ?_ ?_|refine xsC ?_ ?_);all_goals (intro hc;have hp:=hc;try simp at hp;try (exfalso;omega)))|refine qp ?_ ?_)
 all_goals (apply qE;rfl;simp_all [yj])
end Go.Proofs.YtiljlcgmcmjcoaaGreatDoor
set_option maxHeartbeats 1000000
namespace Go.Proofs.YtiljlcgmcmjcoaaGreatDoor
open Go.Ab Go.RowKit
set_option maxRecDepth 10000
attribute [local irreducible] Awp ye ji qQ Red qF Go.Ab.Fin qo Rz xx qG qO ResOk jK je jX qW
theorem qga (l:List Sess) (who:qC) (hs : ∀ s,s ∈ l → 0 ≤ s.size ∧ s.size ≤ 300) (hl:l.length ≤ 1000) :
  jO C.P 70 [.sl false (l.map Sess.row),.v (str who)] (.v (.int .i64 (j9 l who))):=by
 refine qa Tryz.func70 rfl _ Tryz.ntmps70 (Nat.le_of_ble_eq_true rfl) _ Tryz.results70 0 rfl rfl ?_
 repeat' (first|refine qe ?_|fail|((first|refine xsC ?_ ?_);all_goals (intro hc;have hp:=hc;try simp at hp;try (exfalso;omega)))|refine qp ?_ ?_)
 (refine Awp.red (qg (ts:=[(1,.v (str who)),(5,.v (.int .i64 (j9 (l.take 0) who))),(8,.sl false (l.map Sess.row)),(9,.v (.int .i64 l.length)),(10,.v (.int .i64 ((0:Nat):Int)))]) ?_) ?_;((repeat (first|exact qd|refine qi ?_|refine qI ?_ ?_))))
 all_goals try (rw [List.length_map];done)
 refine qq (fun n σ => ∃ i:Nat,i ≤ l.length ∧ n = l.length - i ∧ (True) ∧ σ = ⟨[(1,.v (str who)),(5,.v (.int .i64 (j9 (l.take i) who))),(8,.sl false (l.map Sess.row)),(9,.v (.int .i64 l.length)),(10,.v (.int .i64 (i:Int)))],[],C.nh⟩) l.length ⟨0,Nat.zero_le _,rfl,trivial,rfl⟩ ?_
 rintro n σ ⟨i,hi,rfl, -,rfl⟩
 by_cases hlt:i < l.length
 ·have hr:=qx (f:=Sess.row) hlt
  have hb1:=Vp who hs i
  have hb2:=hs l[i] (List.getElem_mem _)
  have hsucc:=Vr hlt who
  repeat' (first|refine qe ?_|fail|((first|refine xsC ?_ ?_);all_goals (intro hc;have hp:=hc;try simp at hp;try (exfalso;omega)))|refine qp ?_ ?_)
  all_goals try (exfalso;omega)
  all_goals (refine ⟨l.length - (i + 1),_,by omega,qg (ts:=[(1,.v (str who)),(5,.v (.int .i64 (j9 (l.take (i + 1)) who))),(8,.sl false (l.map Sess.row)),(9,.v (.int .i64 l.length)),(10,.v (.int .i64 ((i + 1:Nat):Int)))]) ?_,i + 1,by omega,rfl,trivial,rfl⟩;((repeat (first|exact qd|refine qi ?_|refine qI ?_ ?_))))
  all_goals simp_all
 ·obtain rfl:i = l.length:=by omega
  repeat' (first|refine qe ?_|fail|((first|refine xsC ?_ ?_);all_goals (intro hc;have hp:=hc;try simp at hp;try (exfalso;omega)))|refine qp ?_ ?_)
  all_goals first|(exfalso;omega)|skip
  all_goals (apply qE;rfl;simp [List.take_length])
theorem qd1 (l:List Sess) (who:qC) (hs : ∀ s,s ∈ l → 0 ≤ s.size ∧ s.size ≤ 300) (hl:l.length ≤ 1000) :
  jO C.P 33 [.sl false (l.map Sess.row),.v (str who)] (.v (.int .i64 (j9 l who))):=by
 refine qa Tryz.func33 rfl _ Tryz.ntmps33 (Nat.le_of_ble_eq_true rfl) _ Tryz.results33 0 rfl rfl ?_
 repeat' (first|refine qe ?_|fail|((first|refine xsC ?_ ?_);all_goals (intro hc;have hp:=hc;try simp at hp;try (exfalso;omega)))|refine qp ?_ ?_)
 (refine Awp.red (qg (ts:=[(0,.sl false (l.map Sess.row)),(1,.v (str who)),(5,.v (.int .i64 (j9 (l.take 0) who))),(6,.v (.int .i64 ((0:Nat):Int)))]) ?_) ?_;((repeat (first|exact qd|refine qi ?_|refine qI ?_ ?_))))
 refine qq (fun n σ => ∃ i:Nat,i ≤ l.length ∧ n = l.length - i ∧ (True) ∧ σ = ⟨[(0,.sl false (l.map Sess.row)),(1,.v (str who)),(5,.v (.int .i64 (j9 (l.take i) who))),(6,.v (.int .i64 (i:Int)))],[],C.nh⟩) l.length ⟨0,Nat.zero_le _,rfl,trivial,rfl⟩ ?_
 rintro n σ ⟨i,hi,rfl, -,rfl⟩
 by_cases hlt:i < l.length
 ·have hr:=qx (f:=Sess.row) hlt
  have hb1:=Vp who hs i
  have hb2:=hs l[i] (List.getElem_mem _)
  have hsucc:=Vr hlt who
  repeat' (first|refine qe ?_|fail|((first|refine xsC ?_ ?_);all_goals (intro hc;have hp:=hc;try simp at hp;try (exfalso;omega)))|refine qp ?_ ?_)
  all_goals try (exfalso;simp_all;omega)
  all_goals (refine ⟨l.length - (i + 1),_,by omega,qg (ts:=[(0,.sl false (l.map Sess.row)),(1,.v (str who)),(5,.v (.int .i64 (j9 (l.take (i + 1)) who))),(6,.v (.int .i64 ((i + 1:Nat):Int)))]) ?_,i + 1,by omega,rfl,trivial,rfl⟩;((repeat (first|exact qd|refine qi ?_|refine qI ?_ ?_))))
  all_goals simp_all
 ·obtain rfl:i = l.length:=by omega
  repeat' (first|refine qe ?_|fail|((first|refine xsC ?_ ?_);all_goals (intro hc;have hp:=hc;try simp at hp;try (exfalso;omega)))|refine qp ?_ ?_)
  all_goals first|(exfalso;simp_all;done)|skip
  all_goals (apply qE;rfl;simp [List.take_length])
theorem KJ (a b c:Int):jO C.P 32 [.v (.int .i64 a),.v (.int .i64 b),.v (.int .i64 c)] (.v (.bool (qA a b c))):=by
 refine qa Tryz.func32 rfl _ Tryz.ntmps32 (Nat.le_of_ble_eq_true rfl) _ Tryz.results32 0 rfl rfl ?_
 repeat' (first|refine qe ?_|fail|((first|refine qb ?_ ?_|refine qc ?_ ?_|refine xsC ?_ ?_);all_goals (intro hc;have hp:=hc;try simp at hp;try (exfalso;omega)))|refine qp ?_ ?_)
 all_goals (apply jd;rfl;simp_all [qA];try omega)
end Go.Proofs.YtiljlcgmcmjcoaaGreatDoor
set_option maxHeartbeats 1000000
namespace Go.Proofs.YtiljlcgmcmjcoaaGreatDoor
open Go.Ab Go.RowKit
set_option maxRecDepth 10000
attribute [local irreducible] Awp ye ji qQ Red qF Go.Ab.Fin qo Rz xx qG qO ResOk jK je jX qW
theorem VZ (u:Upl) (hu:UBig u):jO C.P 31 [xw u] (.v (.int .i64 (yM u))):=by
 refine qa Tryz.func31 rfl _ Tryz.ntmps31 (Nat.le_of_ble_eq_true rfl) _ Tryz.results31 0 rfl rfl ?_
 have hlen:=hu.len
 repeat' (first|refine qe ?_|(first|refine xsF Tryz.func68 (Qb ..) ?_)|((first|refine qb ?_ ?_|refine qc ?_ ?_|refine xsC ?_ ?_);all_goals (intro hc;have hp:=hc;try simp at hp;try (exfalso;omega)))|refine qp ?_ ?_)
 all_goals first|(apply qE;rfl;simp_all [yM,zH];done)|(apply qE;rfl;have h20:20 < u.sess.length:=(by omega);simp_all [yM,zH];done)|skip
 rename_i h20
 have hw : ∀ s,s ∈ u.sess → s.who.length ≤ 9223372036854775807:=hu.who
 have hn:1 ≤ u.next ∧ u.next ≤ 1099511627776:=by simp_all [qA]
 have hnl:¬ 20 < u.sess.length:=by omega
 have hhead:zH u = true:=by simp_all [zH]
 refine xV 1 0 ?_
 (refine Awp.red (qg (ts:=[(1,.fp [u.row] 0 0),(32,.sl false (u.sess.map Sess.row)),(33,.v (.int .i64 u.sess.length)),(34,.v (.int .i64 ((0:Nat):Int)))]) ?_) ?_;((repeat (first|exact qd|refine qi ?_|refine qI ?_ ?_))))
 all_goals try (rw [List.length_map];done)
 refine qq (fun n σ => ∃ i:Nat,i ≤ u.sess.length ∧ n = u.sess.length - i ∧ (∀ s,s ∈ u.sess.take i → yj u.next s = 0) ∧ σ = ⟨[(1,.fp [u.row] 0 0),(32,.sl false (u.sess.map Sess.row)),(33,.v (.int .i64 u.sess.length)),(34,.v (.int .i64 (i:Int)))],[],C.nh⟩) u.sess.length ⟨0,Nat.zero_le _,rfl,(by simp),rfl⟩ ?_
 rintro n σ ⟨i,hi,rfl,hsofar,rfl⟩
 by_cases hlt:i < u.sess.length
 ·have hr:=qx (f:=Sess.row) hlt
  have hwi:=hw u.sess[i] (List.getElem_mem _)
  repeat' (first|refine qe ?_|(first|refine xsF Tryz.func69 (qfj _ _ hn.1 hn.2 hwi ..) ?_)|((first|refine qb ?_ ?_|refine qc ?_ ?_|refine xsC ?_ ?_);all_goals (intro hc;have hp:=hc;try simp at hp;try (exfalso;omega)))|refine qp ?_ ?_)
  all_goals try (exfalso;omega)
  ·apply qE
   rfl
   have he:=kf hlt hsofar hp
   have hz:¬ jU (yj u.next) u.sess = 0:=by rw [he];exact hp
   simp only [yM,hhead,hnl,hz,if_true,if_false]
   exact he.symm
  ·refine ⟨u.sess.length - (i + 1),_,by omega,qg (ts:=[(1,.fp [u.row] 0 0),(32,.sl false (u.sess.map Sess.row)),(33,.v (.int .i64 u.sess.length)),(34,.v (.int .i64 ((i + 1:Nat):Int)))]) ?_,i + 1,by omega,rfl,qJ hlt hsofar hp,rfl⟩;((repeat (first|exact qd|refine qi ?_|refine qI ?_ ?_)))
 obtain rfl:i = u.sess.length:=by omega
 clear hlt hi
 have hz:jU (yj u.next) u.sess = 0:=jL.2 (fun s hs=>hsofar s (by rw [List.take_length];exact hs))
 clear hsofar
 repeat' (first|refine qe ?_|fail|((first|refine qb ?_ ?_|refine qc ?_ ?_|refine xsC ?_ ?_);all_goals (intro hc;have hp:=hc;try simp at hp;try (exfalso;omega)))|refine qp ?_ ?_)
 all_goals try (exfalso;simp_all;done)
 (refine Awp.red (qg (ts:=[(1,.fp [u.row] 0 0),(6,.v (.int .i64 ((0 + 1:Nat):Int)))]) ?_) ?_;((repeat (first|exact qd|refine qi ?_|refine qI ?_ ?_))))
 refine qq (fun n σ => ∃ i:Nat,i ≤ (u.sess.drop 1).length ∧ n = (u.sess.drop 1).length - i ∧ (∀ (k:Nat) (h:k + 1 < u.sess.length),k < i → decide ((u.sess[k]'(by omega)).number < u.sess[k + 1].number) = true) ∧ σ = ⟨[(1,.fp [u.row] 0 0),(6,.v (.int .i64 ((i + 1:Nat):Int)))],[],C.nh⟩) (u.sess.drop 1).length ⟨0,Nat.zero_le _,rfl,(fun k h hk=>absurd hk (Nat.not_lt_zero _)),rfl⟩ ?_
 have hdl:(u.sess.drop 1).length = u.sess.length - 1:=by simp
 rintro n σ ⟨i,hi,rfl,hsofar,rfl⟩
 by_cases hlt:i + 1 < u.sess.length
 ·have hr:=qx (f:=Sess.row) hlt
  have hr':=qx (f:=Sess.row) (l:=u.sess) (i:=i) (by omega)
  repeat' (first|refine qe ?_|fail|((first|refine qb ?_ ?_|refine qc ?_ ?_|refine xsC ?_ ?_);all_goals (intro hc;have hp:=hc;try simp at hp;try (exfalso;omega)))|refine qp ?_ ?_)
  all_goals try (exfalso;simp_all;done)
  ·have hrf:¬ qv (fun a b=>decide (a.number < b.number)) u.sess = true:=fun h=>by
    have:=yf.1 h i hlt
    simp at this;omega
   apply qE
   rfl
   simp [yM,hhead,hnl,hz,hrf]
  ·refine ⟨(u.sess.drop 1).length - (i + 1),_,by omega,qg (ts:=[(1,.fp [u.row] 0 0),(6,.v (.int .i64 ((i + 1 + 1:Nat):Int)))]) ?_,i + 1,by omega,rfl,(fun k h hk=>by
    by_cases e:k = i
    ·subst e;simp;omega
    ·exact hsofar k h (by omega)),rfl⟩;((repeat (first|exact qd|refine qi ?_|refine qI ?_ ?_)))
 have hrise:qv (fun a b=>decide (a.number < b.number)) u.sess = true:=yf.2 fun k h=>hsofar k h (by simp at hi;omega)
 clear hsofar
 have hsz : ∀ s,s ∈ u.sess → 0 ≤ s.size ∧ s.size ≤ 300:=fun s hs=>zh (jL.1 hz s hs)
 have hl:u.sess.length ≤ 1000:=by omega
 repeat' (first|refine qe ?_|fail|((first|refine qb ?_ ?_|refine qc ?_ ?_|refine xsC ?_ ?_);all_goals (intro hc;have hp:=hc;try simp at hp;try (exfalso;omega)))|refine qp ?_ ?_)
 all_goals try (exfalso;omega)
 (refine Awp.red (qg (ts:=[(1,.fp [u.row] 0 0),(67,.sl false (u.sess.map Sess.row)),(68,.v (.int .i64 u.sess.length)),(69,.v (.int .i64 ((0:Nat):Int)))]) ?_) ?_;((repeat (first|exact qd|refine qi ?_|refine qI ?_ ?_))))
 all_goals try (rw [List.length_map];done)
 refine qq (fun n σ => ∃ i:Nat,i ≤ u.sess.length ∧ n = u.sess.length - i ∧ (∀ s,s ∈ u.sess.take i → j9 u.sess s.who ≤ u.room) ∧ σ = ⟨[(1,.fp [u.row] 0 0),(67,.sl false (u.sess.map Sess.row)),(68,.v (.int .i64 u.sess.length)),(69,.v (.int .i64 (i:Int)))],[],C.nh⟩) u.sess.length ⟨0,Nat.zero_le _,rfl,(by simp),rfl⟩ ?_
 rintro n σ ⟨i,hi,rfl,hsofar,rfl⟩
 by_cases hlt:i < u.sess.length
 ·have hr:=qx (f:=Sess.row) hlt
  repeat' (first|refine qe ?_|(first|refine xsF Tryz.func70 (qga _ _ hsz hl ..) ?_)|((first|refine qb ?_ ?_|refine qc ?_ ?_|refine xsC ?_ ?_);all_goals (intro hc;have hp:=hc;try simp at hp;try (exfalso;omega)))|refine qp ?_ ?_)
  all_goals try (exfalso;omega)
  ·have hrf:¬ ZQ u = true:=fun h=>by
    have:=List.all_eq_true.1 h _ (List.getElem_mem hlt)
    simp at this;omega
   apply qE
   rfl
   simp [yM,hhead,hnl,hz,hrise,hrf]
  ·refine ⟨u.sess.length - (i + 1),_,by omega,qg (ts:=[(1,.fp [u.row] 0 0),(67,.sl false (u.sess.map Sess.row)),(68,.v (.int .i64 u.sess.length)),(69,.v (.int .i64 ((i + 1:Nat):Int)))]) ?_,i + 1,by omega,rfl,qJ hlt hsofar (by omega),rfl⟩;((repeat (first|exact qd|refine qi ?_|refine qI ?_ ?_)))
 obtain rfl:i = u.sess.length:=by omega
 have hroomy:ZQ u = true:=List.all_eq_true.2 fun s hs=>by
  have:=hsofar s (by rw [List.take_length];exact hs)
  simpa using this
 clear hsofar
 repeat' (first|refine qe ?_|fail|((first|refine qb ?_ ?_|refine qc ?_ ?_|refine xsC ?_ ?_);all_goals (intro hc;have hp:=hc;try simp at hp;try (exfalso;omega)))|refine qp ?_ ?_)
 all_goals try (exfalso;omega)
 apply qE
 rfl
 simp [yM,hhead,hnl,hz,hrise,hroomy]
end Go.Proofs.YtiljlcgmcmjcoaaGreatDoor
set_option maxHeartbeats 1000000
namespace Go.Proofs.YtiljlcgmcmjcoaaGreatDoor
open Go.Ab Go.RowKit
set_option maxRecDepth 10000
attribute [local irreducible] Awp ye ji qQ Red qF Go.Ab.Fin qo Rz xx qG qO ResOk jK je jX qW
theorem qbj {u:Upl} (hhead:zH u = true) (hnl:¬ 20 < u.sess.length) {k:Nat} (hk:k < u.sess.length) (hs : ∀ s,s ∈ u.sess.take k → yj u.next s = 0) {e:Int} (he:yj u.next u.sess[k] = e) (h0:e ≠ 0):e = yM u:=by
 have h1:=kf hk hs (by rw [he];exact h0)
 have hz:¬ jU (yj u.next) u.sess = 0:=by rw [h1,he];exact h0
 simp only [yM,hhead,hnl,hz,if_true,if_false]
 rw [h1,he]
theorem qa8 (u:Upl) (hu:UBig u):jO C.P 13 [xw u] (.v (.int .i64 (yM u))):=by
 refine qa Tryz.func13 rfl _ Tryz.ntmps13 (Nat.le_of_ble_eq_true rfl) _ Tryz.results13 0 rfl rfl ?_
 have hlen:=hu.len
 repeat' (first|refine qe ?_|(first|(refine zO Tryz.func32 (KJ ..) ?_))|((first|refine qb ?_ ?_|refine qc ?_ ?_|refine xsC ?_ ?_);all_goals (intro hc;have hp:=hc;try simp at hp;try (exfalso;omega)))|refine qp ?_ ?_)
 all_goals first|(apply qE;rfl;simp_all [yM,zH];done)|(apply qE;rfl;have h20:20 < u.sess.length:=(by omega);simp_all [yM,zH];done)|skip
 have hw : ∀ s,s ∈ u.sess → s.who.length ≤ 9223372036854775807:=hu.who
 have hn:1 ≤ u.next ∧ u.next ≤ 1099511627776:=by simp_all [qA]
 have hnl:¬ 20 < u.sess.length:=by omega
 have hhead:zH u = true:=by simp_all [zH]
 refine xV 1 0 ?_
 (refine Awp.red (qg (ts:=[(1,.fp [u.row] 0 0),(3,.clo (.func 32) [] []),(4,.v (.int .i64 ((0:Nat):Int)))]) ?_) ?_;((repeat (first|exact qd|refine qi ?_|refine qI ?_ ?_))))
 refine qq (fun n σ => ∃ i:Nat,i ≤ u.sess.length ∧ n = u.sess.length - i ∧ (∀ s,s ∈ u.sess.take i → yj u.next s = 0) ∧ σ = ⟨[(1,.fp [u.row] 0 0),(3,.clo (.func 32) [] []),(4,.v (.int .i64 (i:Int)))],[],C.nh⟩) u.sess.length ⟨0,Nat.zero_le _,rfl,(by simp),rfl⟩ ?_
 rintro n σ ⟨i,hi,rfl,hsofar,rfl⟩
 by_cases hlt:i < u.sess.length
 ·have hr:=qx (f:=Sess.row) hlt
  have hwi:=hw u.sess[i] (List.getElem_mem _)
  repeat' (first|refine qe ?_|(first|(refine zO Tryz.func32 (KJ ..) ?_)|refine xsF Tryz.func25 (xA _ hwi ..) ?_)|((first|refine qb ?_ ?_|refine qc ?_ ?_|refine xsC ?_ ?_);all_goals (intro hc;have hp:=hc;try simp at hp;try (exfalso;omega)))|refine qp ?_ ?_)
  all_goals try (exfalso;omega)
  all_goals first
   | (apply qE;rfl;exact qbj hhead hnl hlt hsofar (by simp_all [yj]) (by omega))
   | (have he:yj u.next u.sess[i] = 0:=(by simp_all [yj];try omega)
      refine ⟨u.sess.length - (i + 1),_,by omega,qg (ts:=[(1,.fp [u.row] 0 0),(3,.clo (.func 32) [] []),(4,.v (.int .i64 ((i + 1:Nat):Int)))]) ?_,i + 1,by omega,rfl,qJ hlt hsofar he,rfl⟩;((repeat (first|exact qd|refine qi ?_|refine qI ?_ ?_))))
 obtain rfl:i = u.sess.length:=by omega
 have hz:jU (yj u.next) u.sess = 0:=jL.2 (fun s hs=>hsofar s (by rw [List.take_length];exact hs))
 clear hsofar
 repeat' (first|refine qe ?_|fail|((first|refine qb ?_ ?_|refine qc ?_ ?_|refine xsC ?_ ?_);all_goals (intro hc;have hp:=hc;try simp at hp;try (exfalso;omega)))|refine qp ?_ ?_)
 all_goals try (exfalso;omega)
 (refine Awp.red (qg (ts:=[(1,.fp [u.row] 0 0),(6,.v (.int .i64 ((0 + 1:Nat):Int)))]) ?_) ?_;((repeat (first|exact qd|refine qi ?_|refine qI ?_ ?_))))
 refine qq (fun n σ => ∃ i:Nat,i ≤ (u.sess.drop 1).length ∧ n = (u.sess.drop 1).length - i ∧ (∀ (k:Nat) (h:k + 1 < u.sess.length),k < i → decide ((u.sess[k]'(by omega)).number < u.sess[k + 1].number) = true) ∧ σ = ⟨[(1,.fp [u.row] 0 0),(6,.v (.int .i64 ((i + 1:Nat):Int)))],[],C.nh⟩) (u.sess.drop 1).length ⟨0,Nat.zero_le _,rfl,(fun k h hk=>absurd hk (Nat.not_lt_zero _)),rfl⟩ ?_
 have hdl:(u.sess.drop 1).length = u.sess.length - 1:=by simp
 rintro n σ ⟨i,hi,rfl,hsofar,rfl⟩
 by_cases hlt:i + 1 < u.sess.length
 ·have hr:=qx (f:=Sess.row) hlt
  have hr':=qx (f:=Sess.row) (l:=u.sess) (i:=i) (by omega)
  repeat' (first|refine qe ?_|fail|((first|refine qb ?_ ?_|refine qc ?_ ?_|refine xsC ?_ ?_);all_goals (intro hc;have hp:=hc;try simp at hp;try (exfalso;omega)))|refine qp ?_ ?_)
  all_goals try (exfalso;simp_all;done)
  ·have hrf:¬ qv (fun a b=>decide (a.number < b.number)) u.sess = true:=fun h=>by
    have:=yf.1 h i hlt
    simp at this;omega
   apply qE
   rfl
   simp [yM,hhead,hnl,hz,hrf]
  ·refine ⟨(u.sess.drop 1).length - (i + 1),_,by omega,qg (ts:=[(1,.fp [u.row] 0 0),(6,.v (.int .i64 ((i + 1 + 1:Nat):Int)))]) ?_,i + 1,by omega,rfl,(fun k h hk=>by
    by_cases e:k = i
    ·subst e;simp;omega
    ·exact hsofar k h (by omega)),rfl⟩;((repeat (first|exact qd|refine qi ?_|refine qI ?_ ?_)))
 have hrise:qv (fun a b=>decide (a.number < b.number)) u.sess = true:=yf.2 fun k h=>hsofar k h (by simp at hi;omega)
 clear hsofar
 have hsz : ∀ s,s ∈ u.sess → 0 ≤ s.size ∧ s.size ≤ 300:=fun s hs=>zh (jL.1 hz s hs)
 have hl:u.sess.length ≤ 1000:=by omega
 repeat' (first|refine qe ?_|fail|((first|refine qb ?_ ?_|refine qc ?_ ?_|refine xsC ?_ ?_);all_goals (intro hc;have hp:=hc;try simp at hp;try (exfalso;omega)))|refine qp ?_ ?_)
 all_goals try (exfalso;omega)
 (refine Awp.red (qg (ts:=[(1,.fp [u.row] 0 0),(7,.v (.int .i64 ((0:Nat):Int)))]) ?_) ?_;((repeat (first|exact qd|refine qi ?_|refine qI ?_ ?_))))
 refine qq (fun n σ => ∃ i:Nat,i ≤ u.sess.length ∧ n = u.sess.length - i ∧ (∀ s,s ∈ u.sess.take i → j9 u.sess s.who ≤ u.room) ∧ σ = ⟨[(1,.fp [u.row] 0 0),(7,.v (.int .i64 (i:Int)))],[],C.nh⟩) u.sess.length ⟨0,Nat.zero_le _,rfl,(by simp),rfl⟩ ?_
 rintro n σ ⟨i,hi,rfl,hsofar,rfl⟩
 by_cases hlt:i < u.sess.length
 ·have hr:=qx (f:=Sess.row) hlt
  repeat' (first|refine qe ?_|(first|refine xsF Tryz.func33 (qd1 _ _ hsz hl ..) ?_)|((first|refine qb ?_ ?_|refine qc ?_ ?_|refine xsC ?_ ?_);all_goals (intro hc;have hp:=hc;try simp at hp;try (exfalso;omega)))|refine qp ?_ ?_)
  all_goals try (exfalso;omega)
  ·have hrf:¬ ZQ u = true:=fun h=>by
    have:=List.all_eq_true.1 h _ (List.getElem_mem hlt)
    simp at this;omega
   apply qE
   rfl
   simp [yM,hhead,hnl,hz,hrise,hrf]
  ·refine ⟨u.sess.length - (i + 1),_,by omega,qg (ts:=[(1,.fp [u.row] 0 0),(7,.v (.int .i64 ((i + 1:Nat):Int)))]) ?_,i + 1,by omega,rfl,qJ hlt hsofar (by omega),rfl⟩;((repeat (first|exact qd|refine qi ?_|refine qI ?_ ?_)))
 obtain rfl:i = u.sess.length:=by omega
 have hroomy:ZQ u = true:=List.all_eq_true.2 fun s hs=>by
  have:=hsofar s (by rw [List.take_length];exact hs)
  simpa using this
 clear hsofar
 repeat' (first|refine qe ?_|fail|((first|refine qb ?_ ?_|refine qc ?_ ?_|refine xsC ?_ ?_);all_goals (intro hc;have hp:=hc;try simp at hp;try (exfalso;omega)))|refine qp ?_ ?_)
 all_goals try (exfalso;omega)
 apply qE
 rfl
 simp [yM,hhead,hnl,hz,hrise,hroomy]
def js (u:Upl) (now:Int):Int:=if yM u = 0 then (if qA now 0 1099511627776 then 0 else 3) else yM u
theorem Zf (u:Upl) (hu:UBig u) (now:Int):jO C.P 93 [xw u,.v (.int .i64 now)] (.v (.int .i64 (js u now))):=by
 refine qa Tryz.func93 rfl _ Tryz.ntmps93 (Nat.le_of_ble_eq_true rfl) _ Tryz.results93 0 rfl rfl ?_
 repeat' (first|refine qe ?_|(first|refine xsF Tryz.func13 (qa8 u hu ..) ?_)|((first|refine qb ?_ ?_|refine qc ?_ ?_|refine xsC ?_ ?_);all_goals (intro hc;have hp:=hc;try simp at hp;try (exfalso;omega)))|refine qp ?_ ?_)
 all_goals (apply qE;rfl;simp_all [js,qA];try omega)
def xD (who:qC) (number:Int) (s:Sess):Bool:=decide (s.who = who) && decide (s.number = number)
theorem VD (u:Upl) (hl:u.sess.length ≤ 1000000) (who:qC) (number:Int):jO C.P 95 [xw u,.v (str who),.v (.int .i64 number)] (.v (.int .i64 (j0 (xD who number) u.sess))):=by
 refine qa Tryz.func95 rfl _ Tryz.ntmps95 (Nat.le_of_ble_eq_true rfl) _ Tryz.results95 0 rfl rfl ?_
 repeat' (first|refine qe ?_|fail|((first|refine qb ?_ ?_|refine qc ?_ ?_|refine xsC ?_ ?_);all_goals (intro hc;have hp:=hc;try simp at hp;try (exfalso;omega)))|refine qp ?_ ?_)
 refine xV 3 0 ?_
 (refine Awp.red (qg (ts:=[(3,.fp [u.row] 0 0),(1,.v (str who)),(2,.v (.int .i64 number)),(7,.v (.int .i64 ((0:Nat):Int)))]) ?_) ?_;((repeat (first|exact qd|refine qi ?_|refine qI ?_ ?_))))
 refine qq (fun n σ => ∃ i:Nat,i ≤ u.sess.length ∧ n = u.sess.length - i ∧ (∀ s,s ∈ u.sess.take i → xD who number s = false) ∧ σ = ⟨[(3,.fp [u.row] 0 0),(1,.v (str who)),(2,.v (.int .i64 number)),(7,.v (.int .i64 (i:Int)))],[],C.nh⟩) u.sess.length ⟨0,Nat.zero_le _,rfl,(by simp),rfl⟩ ?_
 rintro n σ ⟨i,hi,rfl,hsofar,rfl⟩
 by_cases hlt:i < u.sess.length
 ·have hr:=qx (f:=Sess.row) hlt
  repeat' (first|refine qe ?_|fail|((first|refine qb ?_ ?_|refine qc ?_ ?_|refine xsC ?_ ?_);all_goals (intro hc;have hp:=hc;try simp at hp;try (exfalso;omega)))|refine qp ?_ ?_)
  all_goals try (exfalso;omega)
  all_goals first
   | (apply qE;rfl;exact (zu hlt hsofar (by simp_all [xD])).symm)
   | (have he:xD who number u.sess[i] = false:=(by simp_all [xD])
      refine ⟨u.sess.length - (i + 1),_,by omega,qg (ts:=[(3,.fp [u.row] 0 0),(1,.v (str who)),(2,.v (.int .i64 number)),(7,.v (.int .i64 ((i + 1:Nat):Int)))]) ?_,i + 1,by omega,rfl,qJ hlt hsofar he,rfl⟩;((repeat (first|exact qd|refine qi ?_|refine qI ?_ ?_))))
 obtain rfl:i = u.sess.length:=by omega
 repeat' (first|refine qe ?_|fail|((first|refine qb ?_ ?_|refine qc ?_ ?_|refine xsC ?_ ?_);all_goals (intro hc;have hp:=hc;try simp at hp;try (exfalso;omega)))|refine qp ?_ ?_)
 all_goals try (exfalso;omega)
 apply qE
 rfl
 exact (vH fun s hs=>hsofar s (by rw [List.take_length];exact hs)).symm
end Go.Proofs.YtiljlcgmcmjcoaaGreatDoor
set_option linter.unusedSimpArgs false
set_option maxHeartbeats 1000000
namespace Go.Proofs.YtiljlcgmcmjcoaaGreatDoor
open Go.Ab Go.RowKit
set_option maxRecDepth 10000
attribute [local irreducible] Awp ye ji qQ Red qF Go.Ab.Fin qo Rz xx qG qO ResOk jK je jX qW
def zz (now:Int) (s:Sess):Bool:=decide (now ≤ s.till)
def qz (l:List Sess) (now:Int):List Sess:=l.filter (zz now)
def yD (u:Upl) (now:Int):Upl := { u with sess:=qz u.sess now }
theorem Z5 (u:Upl) (now:Int) (hl:u.sess.length ≤ 1000000):jO C.P 94 [xw u,.v (.int .i64 now)] (xw (yD u now)):=by
 refine qa Tryz.func94 rfl _ Tryz.ntmps94 (Nat.le_of_ble_eq_true rfl) _ Tryz.results94 0 rfl rfl ?_
 repeat' (first|refine qe ?_|fail|((first|refine xsC ?_ ?_);all_goals (intro hc;have hp:=hc;try simp at hp;try (exfalso;omega)))|refine qp ?_ ?_)
 refine Awp.red (zd 5 5 rfl (Nat.zero_le _)) ?_
 (refine Awp.red (qY (τ:=⟨[(2,.op 0 0 0),(4,.op 1 0 0),(1,.v (.int .i64 now)),(5,.os 2 0 ((u.sess.take 0).filter (zz now)).length),(6,.v (.int .i64 ((0:Nat):Int)))],[(0,.own true 4 [u.row]),(1,.own true 4 [[.sl true [],.v (.int .i64 0),.v (.int .i64 0),.v (.int .i64 0)]]),(2,.own false 5 (((u.sess.take 0).filter (zz now)).map Sess.row))],3⟩) [(0,0),(1,1),(2,2)] rfl ?gts ?ghs) ?gmain;(case gts=>(repeat (first|exact qd|refine qi ?_|refine xd ?_|refine xL ?_|refine qI ?_ ?_)));(case ghs=>(repeat (first|exact qf|refine jV ?_|refine qH ?_ ?_))))
 refine qq (fun n σ => ∃ i:Nat,i ≤ u.sess.length ∧ n = u.sess.length - i ∧ (True) ∧ σ = ⟨[(2,.op 0 0 0),(4,.op 1 0 0),(1,.v (.int .i64 now)),(5,.os 2 0 ((u.sess.take i).filter (zz now)).length),(6,.v (.int .i64 (i:Int)))],[(0,.own true 4 [u.row]),(1,.own true 4 [[.sl true [],.v (.int .i64 0),.v (.int .i64 0),.v (.int .i64 0)]]),(2,.own false 5 (((u.sess.take i).filter (zz now)).map Sess.row))],3⟩) u.sess.length ⟨0,Nat.zero_le _,rfl,trivial,rfl⟩ ?_
 rintro n σ ⟨i,hi,rfl, -,rfl⟩
 by_cases hlt:i < u.sess.length
 ·have hr:=qx (f:=Sess.row) hlt
  have hfl:((u.sess.take i).filter (zz now)).length ≤ 1000000:=by
   have:=List.length_filter_le (zz now) (u.sess.take i)
   simp at this;omega
  repeat' (first|refine qe ?_|(first|(refine jN ?_)|(refine yX ?_))|((first|refine xsC ?_ ?_);all_goals (intro hc;have hp:=hc;try simp at hp;try (exfalso;omega)))|refine qp ?_ ?_)
  ·have hk:=YP (p:=zz now) hlt (by simpa [zz] using hp)
   refine ⟨u.sess.length - (i + 1),_,by omega,qY (τ:=⟨[(2,.op 0 0 0),(4,.op 1 0 0),(1,.v (.int .i64 now)),(5,.os 2 0 ((u.sess.take (i + 1)).filter (zz now)).length),(6,.v (.int .i64 ((i + 1:Nat):Int)))],[(0,.own true 4 [u.row]),(1,.own true 4 [[.sl true [],.v (.int .i64 0),.v (.int .i64 0),.v (.int .i64 0)]]),(2,.own false 5 (((u.sess.take (i + 1)).filter (zz now)).map Sess.row))],3⟩) [(0,0),(1,1),(3,2)] rfl ?gts ?ghs,i + 1,by omega,rfl,trivial,rfl⟩;(case gts=>(repeat (first|exact qd|refine qi ?_|refine xd ?_|refine xL ?_|refine qI ?_ ?_)));(case ghs=>(repeat (first|exact qf|refine jV ?_|refine qH ?_ ?_)))
  ·have hk:=Qo (p:=zz now) hlt (by simpa [zz] using hp)
   refine ⟨u.sess.length - (i + 1),_,by omega,qY (τ:=⟨[(2,.op 0 0 0),(4,.op 1 0 0),(1,.v (.int .i64 now)),(5,.os 2 0 ((u.sess.take (i + 1)).filter (zz now)).length),(6,.v (.int .i64 ((i + 1:Nat):Int)))],[(0,.own true 4 [u.row]),(1,.own true 4 [[.sl true [],.v (.int .i64 0),.v (.int .i64 0),.v (.int .i64 0)]]),(2,.own false 5 (((u.sess.take (i + 1)).filter (zz now)).map Sess.row))],3⟩) [(0,0),(1,1),(2,2)] rfl ?gts ?ghs,i + 1,by omega,rfl,trivial,rfl⟩;(case gts=>(repeat (first|exact qd|refine qi ?_|refine xd ?_|refine xL ?_|refine qI ?_ ?_)));(case ghs=>(repeat (first|exact qf|refine jV ?_|refine qH ?_ ?_)))
 obtain rfl:i = u.sess.length:=by omega
 repeat' (first|refine qe ?_|fail|((first|refine xsC ?_ ?_);all_goals (intro hc;have hp:=hc;try simp at hp;try (exfalso;omega)))|refine qp ?_ ?_)
 all_goals try (exfalso;omega)
 rw [List.take_length]
 refine JN (rs:=[.cell 4 26]) (qK rfl rfl rfl rfl rfl qS) (Zp (jT (qk (yn rfl (by simp [yD,qz]) (jq fun _=>rfl)) (qk (qB rfl) (qk (qB rfl) (qk (qB rfl) qL))))))
end Go.Proofs.YtiljlcgmcmjcoaaGreatDoor
set_option linter.unusedSimpArgs false
set_option maxHeartbeats 1000000
namespace Go.Proofs.YtiljlcgmcmjcoaaGreatDoor
open Go.Ab Go.RowKit
set_option maxRecDepth 10000
attribute [local irreducible] Awp ye ji qQ Red qF Go.Ab.Fin qo Rz xx qG qO ResOk jK je jX qW
def Ju:Upl:=⟨[],0,0,0⟩
def yE (u:Upl) (who:qC) (size now:Int):Int :=
 if js u now = 0 then
  if ql who then
   if size < 0 ∨ 300 < size ∨ u.next = 1099511627776 then 3
   else if (qz u.sess now).length = 20 then 2
   else if u.room < j9 (qz u.sess now) who + size then 10 else 0
  else 1
 else js u now
def Ym (u:Upl) (who:qC) (size now:Int):Upl := { u with sess:=qz u.sess now ++ [⟨u.next,who,[],size,now + u.lasts⟩],next:=u.next + 1 }
def kZ (u:Upl) (n e:Int):AV := .tup [xw u,.v (.int .i64 n),.v (.int .i64 e)]
def Jy (u:Upl) (who:qC) (size now:Int):AV:=if yE u who size now = 0 then kZ (Ym u who size now) u.next 0 else kZ Ju 0 (yE u who size now)
theorem vj {u:Upl} {who:qC} {size now e:Int} (h:yE u who size now = e) (h0:e ≠ 0):Jy u who size now = kZ Ju 0 e:=by unfold Jy;rw [h,if_neg h0]
theorem K5 {u:Upl} {who:qC} {size now:Int} (h:yE u who size now = 0):Jy u who size now = kZ (Ym u who size now) u.next 0:=by unfold Jy;rw [if_pos h]
theorem ZJ {u:Upl} (h:yM u = 0):zH u = true ∧ u.sess.length ≤ 20 ∧ (∀ s,s ∈ u.sess → yj u.next s = 0) ∧ qv (fun a b=>decide (a.number < b.number)) u.sess = true ∧ ZQ u = true:=by
 unfold yM at h
 split at h
 ·rename_i h1
  split at h
  ·cases h
  ·rename_i h2
   split at h
   ·rename_i h3
    split at h
    ·rename_i h4
     split at h
     ·rename_i h5
      exact ⟨h1,by omega,jL.1 h3,h4,h5⟩
     ·cases h
    ·cases h
   ·rename_i h3;exact absurd h h3
 ·cases h
theorem YO {u:Upl} {now:Int} (h:js u now = 0):yM u = 0 ∧ 0 ≤ now ∧ now ≤ 1099511627776:=by
 unfold js at h
 split at h
 ·rename_i h1
  split at h
  ·rename_i h2;simp [qA] at h2;exact ⟨h1,h2⟩
  ·cases h
 ·rename_i h1;exact absurd h h1
theorem kL {l:List Sess} {now:Int} {s:Sess} (h:s ∈ qz l now):s ∈ l:=(List.mem_filter.1 h).1
theorem vE (l:List Sess) (now:Int):(qz l now).length ≤ l.length:=List.length_filter_le _ _
structure UOk (u:Upl) (now:Int):Prop where
 now0:0 ≤ now
 now1:now ≤ 1099511627776
 l0:1 ≤ u.lasts
 l1:u.lasts ≤ 1000000
 r0:0 ≤ u.room
 r1:u.room ≤ 100000
 n0:1 ≤ u.next
 n1:u.next ≤ 1099511627776
 len:u.sess.length ≤ 20
 sz : ∀ s,s ∈ u.sess → 0 ≤ s.size ∧ s.size ≤ 300
theorem uok {u:Upl} {now:Int} (h:js u now = 0):UOk u now:=by
 obtain ⟨h1,h2,h3⟩:=YO h
 obtain ⟨h4,h5,h6,_,_⟩:=ZJ h1
 simp [zH,qA] at h4
 exact ⟨h2,h3,h4.1.1.1,h4.1.1.2,h4.1.2.1,h4.1.2.2,h4.2.1,h4.2.2,h5,fun s hs=>zh (h6 s hs)⟩
theorem qeh (u:Upl) (hu:UBig u) (who:qC) (hw:who.length ≤ 9223372036854775807) (size now:Int) :
  jO C.P 51 [xw u,.v (str who),.v (.int .i64 size),.v (.int .i64 now)] (Jy u who size now):=by
 refine qa Tryz.func51 rfl _ Tryz.ntmps51 (Nat.le_of_ble_eq_true rfl) _ Tryz.results51 0 rfl rfl ?_
 repeat' (first|refine qe ?_|(first|refine xsF Tryz.func93 (Zf u hu ..) ?_|refine xsF Tryz.func25 (xA _ hw ..) ?_)|((first|refine qb ?_ ?_|refine qc ?_ ?_|refine xsC ?_ ?_);all_goals (intro hc;have hp:=hc;try simp at hp;try (exfalso;omega)))|refine qp ?_ ?_)
 all_goals try (exfalso;simp_all;done)
 all_goals first
  | (rw [vj (e:=1) (by simp_all [yE]) (by decide)];(exact j1 (rs:=[.cell 8 26,.tmp 9,.tmp 10]));done)
  | (rw [vj (e:=3) (by simp_all [yE]) (by decide)];(exact j1 (rs:=[.cell 8 26,.tmp 9,.tmp 10]));done)
  | (rw [vj (e:=js u now) (by simp_all [yE]) (by simp_all)];(exact j1 (rs:=[.cell 8 26,.tmp 9,.tmp 10]));done)
  | skip
 have hb0:js u now = 0:=by assumption
 have hnm:ql who = true:=by assumption
 have hs0:0 ≤ size:=by assumption
 have hs1:size ≤ 300:=by assumption
 have hnx:¬ u.next = 1099511627776:=by assumption
 have ok:=uok hb0
 have hl6:u.sess.length ≤ 1000000:=by have:=ok.len;omega
 have hss : ∀ s,s ∈ qz u.sess now → 0 ≤ s.size ∧ s.size ≤ 300:=fun s hs=>ok.sz s (kL hs)
 have hsl:(qz u.sess now).length ≤ 20:=Nat.le_trans (vE _ _) ok.len
 have hob:=X8 who hss
 have hsl2:(yD u now).sess.length ≤ 20:=hsl
 have hUl:(yD u now).lasts = u.lasts:=rfl
 have hUn:(yD u now).next = u.next:=rfl
 have hUr:(yD u now).room = u.room:=rfl
 obtain ⟨n0,n1,l0,l1,r0,r1,x0,x1,_,_⟩:=ok
 have hor:¬ (size < 0 ∨ 300 < size ∨ u.next = 1099511627776):=by omega
 have hE:yE u who size now = if (qz u.sess now).length = 20 then 2 else if u.room < j9 (qz u.sess now) who + size then 10 else 0:=by simp only [yE,hb0,hnm,hor,if_true,if_false]
 repeat' (first|refine qe ?_|(first|refine xsQ Tryz.func94 (Z5 u now hl6 ..) ?_|(apply qN Tryz.func33 rfl rfl;intro hIsFn;refine qat hIsFn (qd1 (qz u.sess now) who hss (by omega) ..) ?_;skip)|(refine jN ?_)|(refine vL ?_)|(refine yX ?_))|((first|refine qb ?_ ?_|refine qc ?_ ?_|refine xsC ?_ ?_);all_goals (intro hc;have hp:=hc;try simp at hp;try (exfalso;omega)))|refine qp ?_ ?_)
 ·have h20:(qz u.sess now).length = 20:=by simp [yD] at hp;omega
  rw [vj (e:=2) (by rw [hE,if_pos h20]) (by decide)]
  (exact j1 (rs:=[.cell 8 26,.tmp 9,.tmp 10]))
 ·have h20:¬ (qz u.sess now).length = 20:=fun h=>by simp_all [yD]
  rw [vj (e:=10) (by rw [hE,if_neg h20,if_pos (show u.room < j9 (qz u.sess now) who + size from hp)]) (by decide)]
  (exact j1 (rs:=[.cell 8 26,.tmp 9,.tmp 10]))
 ·have h20:¬ (qz u.sess now).length = 20:=fun h=>by simp_all [yD]
  rw [K5 (by rw [hE,if_neg h20,if_neg (by simp [yD] at hp;omega)])]
  (refine yu (rs:=[.cell 8 26,.tmp 9,.tmp 10]) ?_;(repeat' (first|exact qL|apply qk|exact qB rfl|exact yi|exact vS|apply jT|apply yl|apply jQ|apply yo|apply jY|apply yq|refine vY ?_|apply y0));all_goals (first|omega|(rw [List.take_length,show (Ym u who size now).sess = qz u.sess now ++ [⟨u.next,who,[],size,now + u.lasts⟩] from rfl,List.map_append];rfl)))
end Go.Proofs.YtiljlcgmcmjcoaaGreatDoor
set_option linter.unusedSimpArgs false
set_option maxHeartbeats 1000000
namespace Go.Proofs.YtiljlcgmcmjcoaaGreatDoor
open Go.Ab Go.RowKit
set_option maxRecDepth 10000
attribute [local irreducible] Awp ye ji qQ Red qF Go.Ab.Fin qo Rz xx qG qO ResOk jK je jX qW
theorem qgj:qeN C.P 78 = some [0,1,1,0,0]:=by kernel_rfl
theorem qc6 (a b:Sess):QI [0,1,1,0,0] a.row b.row = some (decide (a = b)):=by
 obtain ⟨a1,a2,a3,a4,a5⟩:=a
 obtain ⟨b1,b2,b3,b4,b5⟩:=b
 simp only [Sess.row,QI,Jb,str,Sess.mk.injEq,if_true,Option.some.injEq]
 by_cases h1:a1 = b1<;>by_cases h2:a2 = b2<;>by_cases h3:a3 = b3<;>by_cases h4:a4 = b4<;>by_cases h5:a5 = b5<;>simp [h1,h2,h3,h4,h5]
theorem qak {α:Type} {l l' : List α} {i:Nat} (h:i < l.length) (h' : i < l'.length) (he:l.take i = l'.take i) (hi:l[i] = l'[i]):l.take (i + 1) = l'.take (i + 1):=by
 rw [List.take_succ_eq_append_getElem h,List.take_succ_eq_append_getElem h',he,hi]
theorem qiM (a b:Upl) (ha:a.sess.length ≤ 9223372036854775807) (hb:b.sess.length ≤ 9223372036854775807):jO C.P 35 [xw a,xw b] (.v (.bool (decide (a = b)))):=by
 refine qa Tryz.func35 rfl _ Tryz.ntmps35 (Nat.le_of_ble_eq_true rfl) _ Tryz.results35 0 rfl rfl ?_
 repeat' (first|refine qe ?_|fail|((first|refine qb ?_ ?_|refine qc ?_ ?_|refine xsC ?_ ?_);all_goals (intro hc;have hp:=hc;try simp at hp;try (exfalso;omega)))|refine qp ?_ ?_)
 all_goals first
  | (have hne:a ≠ b:=(fun h=>by subst h;simp_all)
     apply jd;rfl;simp [hne];done)
  | skip
 refine xV 2 0 ?_
 refine xV 3 1 ?_
 have hl:a.sess.length = b.sess.length:=by simp_all;omega
 (refine Awp.red (qg (ts:=[(2,.fp [a.row] 0 0),(3,.fp [b.row] 0 0),(5,.v (.int .i64 ((0:Nat):Int)))]) ?_) ?_;((repeat (first|exact qd|refine qi ?_|refine qI ?_ ?_))))
 refine qq (fun n σ => ∃ i:Nat,i ≤ a.sess.length ∧ n = a.sess.length - i ∧ (a.sess.take i = b.sess.take i) ∧ σ = ⟨[(2,.fp [a.row] 0 0),(3,.fp [b.row] 0 0),(5,.v (.int .i64 (i:Int)))],[],C.nh⟩) a.sess.length ⟨0,Nat.zero_le _,rfl,rfl,rfl⟩ ?_
 rintro n σ ⟨i,hi,rfl,hsofar,rfl⟩
 by_cases hlt:i < a.sess.length
 ·have hr:=qx (f:=Sess.row) hlt
  have hr':=qx (f:=Sess.row) (l:=b.sess) (i:=i) (by omega)
  repeat' (first|refine qe ?_|(first|(apply qj;apply Y1;rfl;rfl;exact qgj;exact qc6 _ _;(first|exact .inl ⟨rfl,rfl⟩|exact .inr ⟨rfl,rfl⟩);exact nle rfl))|((first|refine qb ?_ ?_|refine qc ?_ ?_|refine xsC ?_ ?_);all_goals (intro hc;have hp:=hc;try simp at hp;try (exfalso;omega)))|refine qp ?_ ?_)
  all_goals try (exfalso;omega)
  ·have hne:a ≠ b:=fun h=>by subst h;simp at hp
   apply jd
   rfl
   simp [hne]
  ·refine ⟨a.sess.length - (i + 1),_,by omega,qg (ts:=[(2,.fp [a.row] 0 0),(3,.fp [b.row] 0 0),(5,.v (.int .i64 ((i + 1:Nat):Int)))]) ?_,i + 1,by omega,rfl,(qak hlt (by omega) hsofar (by simpa using hp)),rfl⟩;((repeat (first|exact qd|refine qi ?_|refine qI ?_ ?_)))
 obtain rfl:i = a.sess.length:=by omega
 repeat' (first|refine qe ?_|fail|((first|refine qb ?_ ?_|refine qc ?_ ?_|refine xsC ?_ ?_);all_goals (intro hc;have hp:=hc;try simp at hp;try (exfalso;omega)))|refine qp ?_ ?_)
 all_goals try (exfalso;omega)
 have he:a = b:=by
  rw [List.take_length,hl,List.take_length] at hsofar
  obtain ⟨a1,a2,a3,a4⟩:=a
  obtain ⟨b1,b2,b3,b4⟩:=b
  simp_all
 apply jd
 rfl
 simp [he]
end Go.Proofs.YtiljlcgmcmjcoaaGreatDoor
set_option linter.unusedSimpArgs false
set_option maxHeartbeats 1000000
namespace Go.Proofs.YtiljlcgmcmjcoaaGreatDoor
open Go.Ab Go.RowKit
set_option maxRecDepth 10000
attribute [local irreducible] Awp ye ji qQ Red qF Go.Ab.Fin qo Rz xx qG qO ResOk jK je jX qW
theorem qbr (l:List Sess) (hl:l.length ≤ 1000000) :
  qo C.P 80 [.sl false (l.map Sess.row)] [] (.os 0 0 l.length) [.own false 5 (l.map Sess.row)]:=by
 by_cases h0:l = []
 ·subst h0
  refine qa Tryz.func80 rfl _ Tryz.ntmps80 (Nat.le_of_ble_eq_true rfl) _ Tryz.results80 0 rfl rfl ?_
  repeat' (first|refine qe ?_|(first|(refine jN ?_)|(refine vL ?_)|(refine J9 ?_))|((first|refine xsC ?_ ?_);all_goals (intro hc;have hp:=hc;try simp at hp;try (exfalso;omega)))|refine qp ?_ ?_)
  · (refine Qv (C:=C) (zd (C:=C) 2 5 rfl (Nat.zero_le _)) ?_)
    (refine Jf (rs:=[.tmp 2]) [(0,0)] 1 ?_;(repeat (first|exact qf|refine jV ?_|refine qH ?_ ?_));all_goals skip)
  · (refine Jf (rs:=[.tmp 2]) [(0,0)] 1 ?_;(repeat (first|exact qf|refine jV ?_|refine qH ?_ ?_));all_goals skip)
 ·refine qa Tryz.func80 rfl _ Tryz.ntmps80 (Nat.le_of_ble_eq_true rfl) _ Tryz.results80 0 rfl rfl ?_
  repeat' (first|refine qe ?_|(first|(refine jN ?_)|(refine vL ?_)|(apply qj;apply wK;rfl;exact (fun h=>h0 (List.map_eq_nil_iff.1 h));rfl;rfl;(first|exact .inl rfl|exact .inr rfl);exact nle rfl))|((first|refine xsC ?_ ?_);all_goals (intro hc;have hp:=hc;try simp at hp;try (exfalso;omega)))|refine qp ?_ ?_)
  (refine Jf (rs:=[.tmp 2]) [(0,0)] 1 ?_;(repeat (first|exact qf|refine jV ?_|refine qH ?_ ?_));all_goals skip)
theorem XW (p:Sess → Bool) (g:FuncId) (hg:IsFn C.P g) (cap:List AV) (hcap:AV.pure.pureL cap = true) (l:List Sess) (hl:l.length ≤ 1000000) (hc : ∀ s,s ∈ l → jO C.P g (.agg s.row :: cap) (.v (.bool (p s)))) :
  jO C.P 155 [.sl false (l.map Sess.row),.clo (.func g) [] cap] (.v (.int .i64 (j0 p l))):=by
 refine qa Tryz.func155 rfl _ Tryz.ntmps155 (Nat.le_of_ble_eq_true rfl) _ Tryz.results155 0 rfl rfl ?_
 repeat' (first|refine qe ?_|fail|((first|refine xsC ?_ ?_);all_goals (intro hc;have hp:=hc;try simp at hp;try (exfalso;omega)))|refine qp ?_ ?_)
 (refine Awp.red (qg (ts:=[(0,.sl false (l.map Sess.row)),(1,.clo (.func g) [] cap),(7,.v (.int .i64 l.length)),(8,.v (.int .i64 ((0:Nat):Int)))]) ?_) ?_;((repeat (first|exact qd|refine qi ?_|refine qI ?_ ?_))))
 all_goals try (rw [List.length_map];done)
 refine qq (fun n σ => ∃ i:Nat,i ≤ l.length ∧ n = l.length - i ∧ (∀ s,s ∈ l.take i → p s = false) ∧ σ = ⟨[(0,.sl false (l.map Sess.row)),(1,.clo (.func g) [] cap),(7,.v (.int .i64 l.length)),(8,.v (.int .i64 (i:Int)))],[],C.nh⟩) l.length ⟨0,Nat.zero_le _,rfl,(by simp),rfl⟩ ?_
 rintro n σ ⟨i,hi,rfl,hsofar,rfl⟩
 by_cases hlt:i < l.length
 ·have hr:=qx (f:=Sess.row) hlt
  have hci:=hc l[i] (List.getElem_mem _)
  repeat' (first|refine qe ?_|(first|(apply qj;apply kt [];rfl;exact hg;exact hci;(case hz=>exact qk (qB rfl) (wk hcap));(case hfl=>rfl);(case hN=>exact nle rfl)))|((first|refine xsC ?_ ?_);all_goals (intro hc;have hp:=hc;try simp at hp;try (exfalso;omega)))|refine qp ?_ ?_)
  all_goals try (exfalso;omega)
  ·apply qE
   rfl
   exact (zu hlt hsofar hp).symm
  ·refine ⟨l.length - (i + 1),_,by omega,qg (ts:=[(0,.sl false (l.map Sess.row)),(1,.clo (.func g) [] cap),(7,.v (.int .i64 l.length)),(8,.v (.int .i64 ((i + 1:Nat):Int)))]) ?_,i + 1,by omega,rfl,qJ hlt hsofar hp,rfl⟩;((repeat (first|exact qd|refine qi ?_|refine qI ?_ ?_)))
 obtain rfl:i = l.length:=by omega
 repeat' (first|refine qe ?_|fail|((first|refine xsC ?_ ?_);all_goals (intro hc;have hp:=hc;try simp at hp;try (exfalso;omega)))|refine qp ?_ ?_)
 all_goals try (exfalso;omega)
 apply qE
 rfl
 exact (vH fun s hs=>hsofar s (by rw [List.take_length];exact hs)).symm
end Go.Proofs.YtiljlcgmcmjcoaaGreatDoor
