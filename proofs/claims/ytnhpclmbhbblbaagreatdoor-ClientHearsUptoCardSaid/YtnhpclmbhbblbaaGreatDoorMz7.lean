import Derived.Test.YtnhpclmbhbblbaaGreatDoorTy
import Derived.Test.YtnhpclmbhbblbaaGreatDoorMz1
import Derived.Test.YtnhpclmbhbblbaaGreatDoorMz4
import Derived.Test.YtnhpclmbhbblbaaGreatDoorMz6
import Derived.Test.YtnhpclmbhbblbaaGreatDoorMz0
set_option linter.unusedSimpArgs false
set_option linter.unnecessarySimpa false
namespace Go.Proofs.YtnhpclmbhbblbaaGreatDoor
open Go.Ab Go.RowKit
noncomputable def C1:Cx := { C with nh:=1 }
theorem Y3 {α:Type} {f:α → List AV} {ok:α → Prop} : ∀ {rows:List (List AV)},(∀ row,row ∈ rows → ∃ a,row = f a ∧ ok a) → ∃ l:List α,rows = l.map f ∧ ∀ a,a ∈ l → ok a
 | [],_=>⟨[],rfl,fun a h=>by cases h⟩
 | row :: rows,h=>by
   obtain ⟨a,rfl,ha⟩:=h row (List.mem_cons_self ..)
   obtain ⟨l,rfl,hl⟩:=Y3 fun r hr=>h r (List.mem_cons_of_mem _ hr)
   exact ⟨a :: l,rfl,fun b hb=>by rcases List.mem_cons.1 hb with rfl|hb;exact ha;exact hl b hb⟩
theorem WK (s:qQ) (hs:s.length ≤ 140737488355328):yO C.P 53 [.v (str s)] (.v (.bool (jP s))):=Yo rfl fun w=>Yc s w (by omega)
theorem Xl (s:qQ) (hs:s.length ≤ 140737488355328):yO C.P 45 [.v (str s)] (.v (.bool (jP s))):=Yo rfl fun w=>WQ s w (by omega)
end Go.Proofs.YtnhpclmbhbblbaaGreatDoor
set_option linter.unusedSimpArgs false
set_option linter.unnecessarySimpa false
namespace Go.Proofs.YtnhpclmbhbblbaaGreatDoor
open Go.Ab Go.RowKit
theorem wc {n:Nat} {xs:List AV} (h:kV C.tab 1000000000 n 3 xs) : ∃ a,xs = [.v (.int .i64 a)] ∧ (Lit.int .i64 a).wf = true:=by
 cases n with
 | zero=>exact h.elim
 | succ n=>exact h
theorem wd {n:Nat} {xs:List AV} (h:kV C.tab 1000000000 n 9 xs) : ∃ s:qQ,xs = [.v (str s)] ∧ s.length ≤ 1000000000:=by
 cases n with
 | zero=>exact h.elim
 | succ n=>exact h
theorem Zo {n:Nat} {xs:List AV} (h:kV C.tab 1000000000 n 4 xs) : ∃ b,xs = [.v (.bool b)]:=by
 cases n with
 | zero=>exact h.elim
 | succ n=>exact h
theorem qfX {y:AV} (h:Wd C.tab 1000000000 3 y) : ∃ a,y = .v (.int .i64 a) ∧ (Lit.int .i64 a).wf = true:=by
 obtain ⟨n,h⟩:=(show ∃ n,kV C.tab 1000000000 n 3 [y] from h)
 obtain ⟨a,h1,h2⟩:=wc h
 exact ⟨a,by simpa using h1,h2⟩
def Ent.row (e:Ent):List AV:=[.v (str e.path),.v (.bool e.fold),.v (str e.text),.v (.int .i64 e.ver)]
def Ent.small (e:Ent):Prop:=e.path.length ≤ 1000000000 ∧ e.text.length ≤ 1000000000
def qb (t:List Ent):AV := .sl false (t.map Ent.row)
structure EBig (t:List Ent):Prop where
 each : ∀ e,e ∈ t → e.small
 len:t.length ≤ 1000000000
def Chg.row (c:Chg):List AV:=[.v (.int .i64 c.kind),.v (str c.path),.v (str c.to),.v (str c.text),.v (.int .i64 c.base)]
def Chg.small (c:Chg):Prop:=c.path.length ≤ 1000000000 ∧ c.to.length ≤ 1000000000 ∧ c.text.length ≤ 1000000000
def vM (t:List Chg):AV := .sl false (t.map Chg.row)
structure CBig (t:List Chg):Prop where
 each : ∀ e,e ∈ t → e.small
 len:t.length ≤ 1000000000
theorem qf2 {n:Nat} {xs:List AV} (h:kV C.tab 1000000000 n 59 xs) : ∃ s:Ent,xs = s.row ∧ s.small:=by
 cases n with
 | zero=>exact h.elim
 | succ n =>
   obtain ⟨_,_,rfl,h0,_,_,rfl,h1,_,_,rfl,h2,_,_,rfl,h3,rfl⟩:=(show Q0 C.tab 0 _ = some _ → Kp (kV C.tab 1000000000 n) [(0,9),(1,4),(2,9),(3,3)] xs from h) rfl
   obtain ⟨a0,rfl,l0⟩:=wd h0
   obtain ⟨a1,rfl⟩:=Zo h1
   obtain ⟨a2,rfl,l2⟩:=wd h2
   obtain ⟨a3,rfl,_⟩:=wc h3
   exact ⟨⟨a0,a1,a2,a3⟩,rfl,l0,l2⟩
theorem qfZ {n:Nat} {xs:List AV} (h:kV C.tab 1000000000 n 80 xs) : ∃ s:Chg,xs = s.row ∧ s.small:=by
 cases n with
 | zero=>exact h.elim
 | succ n =>
   obtain ⟨_,_,rfl,h0,_,_,rfl,h1,_,_,rfl,h2,_,_,rfl,h3,_,_,rfl,h4,rfl⟩:=(show Q0 C.tab 0 _ = some _ → Kp (kV C.tab 1000000000 n) [(0,3),(1,9),(2,9),(3,9),(4,3)] xs from h) rfl
   obtain ⟨a0,rfl,_⟩:=wc h0
   obtain ⟨a1,rfl,l1⟩:=wd h1
   obtain ⟨a2,rfl,l2⟩:=wd h2
   obtain ⟨a3,rfl,l3⟩:=wd h3
   obtain ⟨a4,rfl,_⟩:=wc h4
   exact ⟨⟨a0,a1,a2,a3,a4⟩,rfl,l1,l2,l3⟩
end Go.Proofs.YtnhpclmbhbblbaaGreatDoor
set_option linter.unusedSimpArgs false
set_option linter.unusedVariables false
namespace Go.Proofs.YtnhpclmbhbblbaaGreatDoor
open Go.Ab Go.RowKit
theorem Zp {n:Nat} {xs:List AV} (h:kV C.tab 1000000000 n 22 xs) : ∃ t:List Ent,xs = [qb t] ∧ EBig t:=by
 cases n with
 | zero=>exact h.elim
 | succ n =>
   obtain ⟨rows,he,hb,hr⟩:=(show (4:Nat) ≠ 0 → ∃ rows,xs = [AV.sl false rows] ∧ rows.length * 48 ≤ 1000000000 ∧ ∀ row,row ∈ rows → kV C.tab 1000000000 n 59 row from h) (by decide)
   obtain ⟨l,rfl,hl⟩:=Y3 (f:=Ent.row) (ok:=Ent.small) (fun row hrow=>qf2 (hr row hrow))
   refine ⟨l,he,hl,?_⟩
   simp at hb;omega
theorem qaz {n:Nat} {xs:List AV} (h:kV C.tab 1000000000 n 36 xs) : ∃ t:List Chg,xs = [vM t] ∧ CBig t:=by
 cases n with
 | zero=>exact h.elim
 | succ n =>
   obtain ⟨rows,he,hb,hr⟩:=(show (5:Nat) ≠ 0 → ∃ rows,xs = [AV.sl false rows] ∧ rows.length * 64 ≤ 1000000000 ∧ ∀ row,row ∈ rows → kV C.tab 1000000000 n 80 row from h) (by decide)
   obtain ⟨l,rfl,hl⟩:=Y3 (f:=Chg.row) (ok:=Chg.small) (fun row hrow=>qfZ (hr row hrow))
   refine ⟨l,he,hl,?_⟩
   simp at hb;omega
end Go.Proofs.YtnhpclmbhbblbaaGreatDoor
set_option linter.unusedVariables false
namespace Go.Proofs.YtnhpclmbhbblbaaGreatDoor
open Go.Ab Go.RowKit
structure Rqt where
 kind:Int
 who:qQ
 folder:qQ
 name:qQ
 key:qQ
 text:qQ
 number:Int
 offset:Int
 base:Int
 chs:List Chg
 deriving DecidableEq
def Rqt.row (r:Rqt):List AV:=[.v (.int .i64 r.kind),.v (str r.who),.v (str r.folder),.v (str r.name),.v (str r.key),.v (str r.text),.v (.int .i64 r.number),.v (.int .i64 r.offset),.v (.int .i64 r.base),vM r.chs]
def qej:Rqt:=⟨0,[],[],[],[],[],0,0,0,[]⟩
end Go.Proofs.YtnhpclmbhbblbaaGreatDoor
set_option linter.unusedSimpArgs false
set_option linter.unnecessarySimpa false
set_option maxHeartbeats 1000000
namespace Go.Proofs.YtnhpclmbhbblbaaGreatDoor
open Go.Ab Go.RowKit
set_option maxRecDepth 10000
attribute [local irreducible] Awp yl jE jl Red qX Go.Ab.Fin qW Rz vl jj ji ResOk jV jz yb jv
def kS:qQ:=[47]
theorem qeJ (s:qQ):yO C.P 137 [.v (str s),.v (str kS)] (.v (.int .i64 (s.count 47:Nat))):=by
 refine qa Tryz.func137 rfl _ Tryz.ntmps137 (Nat.le_of_ble_eq_true rfl) _ Tryz.results137 0 rfl rfl ?_
 repeat' (first|refine qm ?_|(first|(apply qf;apply qff;exact Tryz.func163;(case hname=>rfl);(case hb=>rfl);(case hnx=>rfl);(case hex=>rfl);(case hx=>rfl);(case hy=>rfl);(case hrun=>exact fun w=>Lib.run_countString _ _ w);(case hr=>rfl);(case hN=>exact nle rfl)))|((first|refine xsC ?_ ?_);all_goals (intro hc;have hp:=hc;try simp at hp;try (exfalso;omega)))|refine qO ?_ ?_)
 all_goals try (exfalso;simp_all [kS];done)
 all_goals (apply jL;rfl;simp [Lib.countByte])
theorem qbz (s:qQ):yO C.P 114 [.v (str s)] (.v (.bool (jZ s))):=by
 have htg:=Jq s
 refine qa Tryz.func114 rfl _ Tryz.ntmps114 (Nat.le_of_ble_eq_true rfl) _ Tryz.results114 0 rfl rfl ?_
 repeat' (first|refine qm ?_|(first|refine jc Tryz.func137 (qeJ s ..) ?_)|((first|refine qd ?_ ?_|refine qc ?_ ?_|refine xsC ?_ ?_);all_goals (intro hc;have hp:=hc;try simp at hp;try (exfalso;omega)))|refine qO ?_ ?_)
 all_goals (apply jB;rfl;rw [htg])
 all_goals first
  | (have h6:¬ 6 ≤ s.count 47:=(by omega)
     simp [h6];omega)
  | (have h6:6 ≤ s.count 47:=(by omega)
     simp [h6];done)
end Go.Proofs.YtnhpclmbhbblbaaGreatDoor
