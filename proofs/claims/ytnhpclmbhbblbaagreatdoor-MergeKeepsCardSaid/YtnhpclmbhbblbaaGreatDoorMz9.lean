import Derived.Test.YtnhpclmbhbblbaaGreatDoorTy
import Derived.Test.YtnhpclmbhbblbaaGreatDoorMz1
import Derived.Test.YtnhpclmbhbblbaaGreatDoorMz8
import Derived.Test.YtnhpclmbhbblbaaGreatDoorMz5
import Derived.Test.YtnhpclmbhbblbaaGreatDoorMz0
set_option linter.unusedSimpArgs false
set_option linter.unnecessarySimpa false
namespace Go.Proofs.YtnhpclmbhbblbaaGreatDoor
open Go.Ab Go.RowKit
noncomputable def C1:Cx := { C with nh:=1 }
noncomputable def C2:Cx := { C with nh:=2 }
theorem VV {α:Type} {f:α → List AV} {ok:α → Prop} : ∀ {rows:List (List AV)},(∀ row,row ∈ rows → ∃ a,row = f a ∧ ok a) → ∃ l:List α,rows = l.map f ∧ ∀ a,a ∈ l → ok a
 | [],_=>⟨[],rfl,fun a h=>by cases h⟩
 | row :: rows,h=>by
   obtain ⟨a,rfl,ha⟩:=h row (List.mem_cons_self ..)
   obtain ⟨l,rfl,hl⟩:=VV fun r hr=>h r (List.mem_cons_of_mem _ hr)
   exact ⟨a :: l,rfl,fun b hb=>by rcases List.mem_cons.1 hb with rfl|hb;exact ha;exact hl b hb⟩
end Go.Proofs.YtnhpclmbhbblbaaGreatDoor
set_option linter.unusedSimpArgs false
set_option linter.unnecessarySimpa false
set_option maxHeartbeats 1000000
namespace Go.Proofs.YtnhpclmbhbblbaaGreatDoor
open Go.Ab Go.RowKit
set_option maxRecDepth 10000
attribute [local irreducible] Awp jW jh jn Red qD Go.Ab.Fin qI Rz x4 ji jf ResOk jQ jq yl jg
def vG:qx:=[47]
theorem qai (s:qx):x6 C.P 137 [.v (str s),.v (str vG)] (.v (.int .i64 (s.count 47:Nat))):=by
 refine qa Tryz.func137 rfl _ Tryz.ntmps137 (Nat.le_of_ble_eq_true rfl) _ Tryz.results137 0 rfl rfl ?_
 repeat' (first|refine qu ?_|(first|(apply qb;apply qaC;exact Tryz.func163;(case hname=>rfl);(case hb=>rfl);(case hnx=>rfl);(case hex=>rfl);(case hx=>rfl);(case hy=>rfl);(case hrun=>exact fun w=>Lib.run_countString _ _ w);(case hr=>rfl);(case hN=>exact nle rfl)))|((first|refine xsC ?_ ?_);all_goals (intro hc;have hp:=hc;try simp at hp;try (exfalso;omega)))|refine jc ?_ ?_)
 all_goals try (exfalso;simp_all [vG];done)
 all_goals (apply jV;rfl;simp [Lib.countByte])
theorem ZP (s:qx):x6 C.P 114 [.v (str s)] (.v (.bool (jF s))):=by
 have htg:=k8 s
 refine qa Tryz.func114 rfl _ Tryz.ntmps114 (Nat.le_of_ble_eq_true rfl) _ Tryz.results114 0 rfl rfl ?_
 repeat' (first|refine qu ?_|(first|refine yY Tryz.func137 (qai s ..) ?_)|((first|refine qk ?_ ?_|refine qj ?_ ?_|refine xsC ?_ ?_);all_goals (intro hc;have hp:=hc;try simp at hp;try (exfalso;omega)))|refine jc ?_ ?_)
 all_goals (apply yH;rfl;rw [htg])
 all_goals first
  | (have h6:¬ 6 ≤ s.count 47:=(by omega)
     simp [h6];omega)
  | (have h6:6 ≤ s.count 47:=(by omega)
     simp [h6];done)
end Go.Proofs.YtnhpclmbhbblbaaGreatDoor
set_option linter.unusedSimpArgs false
set_option linter.unnecessarySimpa false
namespace Go.Proofs.YtnhpclmbhbblbaaGreatDoor
open Go.Ab Go.RowKit
theorem qa9 {n:Nat} {xs:List AV} (h:wy C.tab 140737488355328 n 3 xs) : ∃ a,xs = [.v (.int .i64 a)] ∧ (Lit.int .i64 a).wf = true:=by
 cases n with
 | zero=>exact h.elim
 | succ n=>exact h
theorem Z7 {n:Nat} {xs:List AV} (h:wy C.tab 140737488355328 n 9 xs) : ∃ s:qx,xs = [.v (str s)] ∧ s.length ≤ 140737488355328:=by
 cases n with
 | zero=>exact h.elim
 | succ n=>exact h
theorem qac {n:Nat} {xs:List AV} (h:wy C.tab 140737488355328 n 4 xs) : ∃ b,xs = [.v (.bool b)]:=by
 cases n with
 | zero=>exact h.elim
 | succ n=>exact h
def Ent.row (e:Ent):List AV:=[.v (str e.path),.v (.bool e.fold),.v (str e.text),.v (.int .i64 e.ver)]
def Ent.small (e:Ent):Prop:=e.path.length ≤ 140737488355328 ∧ e.text.length ≤ 140737488355328
def qo (t:List Ent):AV := .sl false (t.map Ent.row)
structure EBig (t:List Ent):Prop where
 each : ∀ e,e ∈ t → e.small
 len:t.length ≤ 140737488355328
def Chg.row (c:Chg):List AV:=[.v (.int .i64 c.kind),.v (str c.path),.v (str c.to),.v (str c.text),.v (.int .i64 c.base)]
def Chg.small (c:Chg):Prop:=c.path.length ≤ 140737488355328 ∧ c.to.length ≤ 140737488355328 ∧ c.text.length ≤ 140737488355328
def JN (t:List Chg):AV := .sl false (t.map Chg.row)
structure CBig (t:List Chg):Prop where
 each : ∀ e,e ∈ t → e.small
 len:t.length ≤ 140737488355328
theorem qa8 {n:Nat} {xs:List AV} (h:wy C.tab 140737488355328 n 59 xs) : ∃ s:Ent,xs = s.row ∧ s.small:=by
 cases n with
 | zero=>exact h.elim
 | succ n =>
   obtain ⟨_,_,rfl,h0,_,_,rfl,h1,_,_,rfl,h2,_,_,rfl,h3,rfl⟩:=(show Ys C.tab 0 _ = some _ → qag (wy C.tab 140737488355328 n) [(0,9),(1,4),(2,9),(3,3)] xs from h) rfl
   obtain ⟨a0,rfl,l0⟩:=Z7 h0
   obtain ⟨a1,rfl⟩:=qac h1
   obtain ⟨a2,rfl,l2⟩:=Z7 h2
   obtain ⟨a3,rfl,_⟩:=qa9 h3
   exact ⟨⟨a0,a1,a2,a3⟩,rfl,l0,l2⟩
theorem Yu {y:AV} (h:Z9 C.tab 140737488355328 22 y) : ∃ t:List Ent,y = qo t ∧ EBig t:=by
 obtain ⟨n,h⟩:=(show ∃ n,wy C.tab 140737488355328 n 22 [y] from h)
 cases n with
 | zero=>exact h.elim
 | succ n =>
   obtain ⟨rows,he,hb,hr⟩:=(show (4:Nat) ≠ 0 → ∃ rows,[y] = [AV.sl false rows] ∧ rows.length * 48 ≤ 140737488355328 ∧ ∀ row,row ∈ rows → wy C.tab 140737488355328 n 59 row from h) (by decide)
   obtain ⟨l,rfl,hl⟩:=VV (f:=Ent.row) (ok:=Ent.small) (fun row hrow=>qa8 (hr row hrow))
   refine ⟨l,by simpa [qo] using he,hl,?_⟩
   simp at hb;omega
end Go.Proofs.YtnhpclmbhbblbaaGreatDoor
