import Derived.Test.YtnhpclmbhbblbaaGreatDoorTy
import Derived.Test.YtnhpclmbhbblbaaGreatDoorMz1
import Derived.Test.YtnhpclmbhbblbaaGreatDoorMz8
import Derived.Test.YtnhpclmbhbblbaaGreatDoorMz5
import Derived.Test.YtnhpclmbhbblbaaGreatDoorMz0
set_option linter.unusedSimpArgs false
set_option linter.unnecessarySimpa false
namespace Go.Proofs.YtnhpclmbhbblbaaGreatDoor
open Go.Ab Go.RowKit
noncomputable def C1:Cx := { C with nh:=1 }
theorem Vm {α:Type} {f:α → List AV} {ok:α → Prop} : ∀ {rows:List (List AV)},(∀ row,row ∈ rows → ∃ a,row = f a ∧ ok a) → ∃ l:List α,rows = l.map f ∧ ∀ a,a ∈ l → ok a
 | [],_=>⟨[],rfl,fun a h=>by cases h⟩
 | row :: rows,h=>by
   obtain ⟨a,rfl,ha⟩:=h row (List.mem_cons_self ..)
   obtain ⟨l,rfl,hl⟩:=Vm fun r hr=>h r (List.mem_cons_of_mem _ hr)
   exact ⟨a :: l,rfl,fun b hb=>by rcases List.mem_cons.1 hb with rfl|hb;exact ha;exact hl b hb⟩
theorem KB (s:qJ) (hs:s.length ≤ 140737488355328):vg C.P 45 [.v (str s)] (.v (.bool (jF s))):=Xx rfl fun w=>Vb s w (by omega)
end Go.Proofs.YtnhpclmbhbblbaaGreatDoor
set_option linter.unusedSimpArgs false
set_option linter.unnecessarySimpa false
set_option maxHeartbeats 1000000
namespace Go.Proofs.YtnhpclmbhbblbaaGreatDoor
open Go.Ab Go.RowKit
set_option maxRecDepth 10000
attribute [local irreducible] Awp j4 jw js Red qU Go.Ab.Fin q6 Rz x6 jp jo ResOk jJ ju yb jx
def v2:qJ:=[47]
theorem qaW (s:qJ):vg C.P 137 [.v (str s),.v (str v2)] (.v (.int .i64 (s.count 47:Nat))):=by
 refine qh Tryz.func137 rfl _ Tryz.ntmps137 (Nat.le_of_ble_eq_true rfl) _ Tryz.results137 0 rfl rfl ?_
 repeat' (first|refine qA ?_|(first|(apply qd;apply qaJ;exact Tryz.func163;(case hname=>rfl);(case hb=>rfl);(case hnx=>rfl);(case hex=>rfl);(case hx=>rfl);(case hy=>rfl);(case hrun=>exact fun w=>Lib.run_countString _ _ w);(case hr=>rfl);(case hN=>exact nle rfl)))|((first|refine jg ?_ ?_);all_goals (intro hc;have hp:=hc;try simp at hp;try (exfalso;omega)))|refine jh ?_ ?_)
 all_goals try (exfalso;simp_all [v2];done)
 all_goals (apply jL;rfl;simp [Lib.countByte])
theorem qbd (s:qJ):vg C.P 114 [.v (str s)] (.v (.bool (jT s))):=by
 have htg:=kP s
 refine qh Tryz.func114 rfl _ Tryz.ntmps114 (Nat.le_of_ble_eq_true rfl) _ Tryz.results114 0 rfl rfl ?_
 repeat' (first|refine qA ?_|(first|refine jM Tryz.func137 (qaW s ..) ?_)|((first|refine qk ?_ ?_|refine ql ?_ ?_|refine jg ?_ ?_);all_goals (intro hc;have hp:=hc;try simp at hp;try (exfalso;omega)))|refine jh ?_ ?_)
 all_goals (apply yE;rfl;rw [htg])
 all_goals first
  | (have h6:¬ 6 ≤ s.count 47:=(by omega)
     simp [h6];omega)
  | (have h6:6 ≤ s.count 47:=(by omega)
     simp [h6];done)
end Go.Proofs.YtnhpclmbhbblbaaGreatDoor
set_option linter.unusedSimpArgs false
set_option linter.unnecessarySimpa false
namespace Go.Proofs.YtnhpclmbhbblbaaGreatDoor
open Go.Ab Go.RowKit
theorem qaY {n:Nat} {xs:List AV} (h:wJ C.tab 1000000000 n 3 xs) : ∃ a,xs = [.v (.int .i64 a)] ∧ (Lit.int .i64 a).wf = true:=by
 cases n with
 | zero=>exact h.elim
 | succ n=>exact h
theorem Kh {n:Nat} {xs:List AV} (h:wJ C.tab 1000000000 n 9 xs) : ∃ s:qJ,xs = [.v (str s)] ∧ s.length ≤ 1000000000:=by
 cases n with
 | zero=>exact h.elim
 | succ n=>exact h
theorem qab {n:Nat} {xs:List AV} (h:wJ C.tab 1000000000 n 4 xs) : ∃ b,xs = [.v (.bool b)]:=by
 cases n with
 | zero=>exact h.elim
 | succ n=>exact h
def Ent.row (e:Ent):List AV:=[.v (str e.path),.v (.bool e.fold),.v (str e.text),.v (.int .i64 e.ver)]
def Ent.small (e:Ent):Prop:=e.path.length ≤ 1000000000 ∧ e.text.length ≤ 1000000000
def qe (t:List Ent):AV := .sl false (t.map Ent.row)
structure EBig (t:List Ent):Prop where
 each : ∀ e,e ∈ t → e.small
 len:t.length ≤ 1000000000
def Chg.row (c:Chg):List AV:=[.v (.int .i64 c.kind),.v (str c.path),.v (str c.to),.v (str c.text),.v (.int .i64 c.base)]
def Chg.small (c:Chg):Prop:=c.path.length ≤ 1000000000 ∧ c.to.length ≤ 1000000000 ∧ c.text.length ≤ 1000000000
structure CBig (t:List Chg):Prop where
 each : ∀ e,e ∈ t → e.small
 len:t.length ≤ 1000000000
theorem qaA {n:Nat} {xs:List AV} (h:wJ C.tab 1000000000 n 59 xs) : ∃ s:Ent,xs = s.row ∧ s.small:=by
 cases n with
 | zero=>exact h.elim
 | succ n =>
   obtain ⟨_,_,rfl,h0,_,_,rfl,h1,_,_,rfl,h2,_,_,rfl,h3,rfl⟩:=(show JW C.tab 0 _ = some _ → qaZ (wJ C.tab 1000000000 n) [(0,9),(1,4),(2,9),(3,3)] xs from h) rfl
   obtain ⟨a0,rfl,l0⟩:=Kh h0
   obtain ⟨a1,rfl⟩:=qab h1
   obtain ⟨a2,rfl,l2⟩:=Kh h2
   obtain ⟨a3,rfl,_⟩:=qaY h3
   exact ⟨⟨a0,a1,a2,a3⟩,rfl,l0,l2⟩
theorem J9 {y:AV} (h:Wn C.tab 1000000000 22 y) : ∃ t:List Ent,y = qe t ∧ EBig t:=by
 obtain ⟨n,h⟩:=(show ∃ n,wJ C.tab 1000000000 n 22 [y] from h)
 cases n with
 | zero=>exact h.elim
 | succ n =>
   obtain ⟨rows,he,hb,hr⟩:=(show (4:Nat) ≠ 0 → ∃ rows,[y] = [AV.sl false rows] ∧ rows.length * 48 ≤ 1000000000 ∧ ∀ row,row ∈ rows → wJ C.tab 1000000000 n 59 row from h) (by decide)
   obtain ⟨l,rfl,hl⟩:=Vm (f:=Ent.row) (ok:=Ent.small) (fun row hrow=>qaA (hr row hrow))
   refine ⟨l,by simpa [qe] using he,hl,?_⟩
   simp at hb;omega
end Go.Proofs.YtnhpclmbhbblbaaGreatDoor
