import Derived.Test.YtnhpclmbhbblbaaDoorTy
import Derived.Test.YtnhpclmbhbblbaaDoorMz1
import Derived.Test.YtnhpclmbhbblbaaDoorMz4
import Derived.Test.YtnhpclmbhbblbaaDoorMz6
import Derived.Test.YtnhpclmbhbblbaaDoorMz0
set_option linter.unusedSimpArgs false
set_option linter.unnecessarySimpa false
namespace Go.Proofs.YtnhpclmbhbblbaaDoor
open Go.Ab Go.RowKit
noncomputable def C1:Cx := { C with nh:=1 }
theorem QI {α:Type} {f:α → List AV} {ok:α → Prop} : ∀ {rows:List (List AV)},(∀ row,row ∈ rows → ∃ a,row = f a ∧ ok a) → ∃ l:List α,rows = l.map f ∧ ∀ a,a ∈ l → ok a
 | [],_=>⟨[],rfl,fun a h=>by cases h⟩
 | row :: rows,h=>by
   obtain ⟨a,rfl,ha⟩:=h row (List.mem_cons_self ..)
   obtain ⟨l,rfl,hl⟩:=QI fun r hr=>h r (List.mem_cons_of_mem _ hr)
   exact ⟨a :: l,rfl,fun b hb=>by rcases List.mem_cons.1 hb with rfl|hb;exact ha;exact hl b hb⟩
theorem Yu (s:qv) (hs:s.length ≤ 140737488355328):yc C.P 20 [.v (str s)] (.v (.bool (qH s))):=Qo rfl fun w=>Q6 s w (by omega)
end Go.Proofs.YtnhpclmbhbblbaaDoor
set_option linter.unusedSimpArgs false
set_option linter.unnecessarySimpa false
set_option maxHeartbeats 1000000
namespace Go.Proofs.YtnhpclmbhbblbaaDoor
open Go.Ab Go.RowKit
set_option maxRecDepth 10000
attribute [local irreducible] Awp jk qG q9 Red qp Go.Ab.Fin qx Rz yS qX qT ResOk jp jd jG qR
def yP:qv:=[47]
theorem Vj (s:qv):yc C.P 64 [.v (str s),.v (str yP)] (.v (.int .i64 (s.count 47:Nat))):=by
 refine qa Tryd.func64 rfl _ Tryd.ntmps64 (Nat.le_of_ble_eq_true rfl) _ Tryd.results64 0 rfl rfl ?_
 repeat' (first|refine qj ?_|(first|(apply qh;apply XN;exact Tryd.func81;(case hname=>rfl);(case hb=>rfl);(case hnx=>rfl);(case hex=>rfl);(case hx=>rfl);(case hy=>rfl);(case hrun=>exact fun w=>Lib.run_countString _ _ w);(case hr=>rfl);(case hN=>exact nle rfl)))|((first|refine xsC ?_ ?_);all_goals (intro hc;have hp:=hc;try simp at hp;try (exfalso;omega)))|refine qD ?_ ?_)
 all_goals try (exfalso;simp_all [yP];done)
 all_goals (apply qC;rfl;simp [Lib.countByte])
theorem XU (s:qv):yc C.P 44 [.v (str s)] (.v (.bool (qN s))):=by
 have htg:=vf s
 refine qa Tryd.func44 rfl _ Tryd.ntmps44 (Nat.le_of_ble_eq_true rfl) _ Tryd.results44 0 rfl rfl ?_
 repeat' (first|refine qj ?_|(first|refine jH Tryd.func64 (Vj s ..) ?_)|((first|refine qe ?_ ?_|refine qf ?_ ?_|refine xsC ?_ ?_);all_goals (intro hc;have hp:=hc;try simp at hp;try (exfalso;omega)))|refine qD ?_ ?_)
 all_goals (apply q8;rfl;rw [htg])
 all_goals first
  | (have h6:¬ 6 ≤ s.count 47:=(by omega)
     simp [h6];omega)
  | (have h6:6 ≤ s.count 47:=(by omega)
     simp [h6];done)
end Go.Proofs.YtnhpclmbhbblbaaDoor
set_option linter.unusedSimpArgs false
set_option linter.unnecessarySimpa false
namespace Go.Proofs.YtnhpclmbhbblbaaDoor
open Go.Ab Go.RowKit
theorem X8 {n:Nat} {xs:List AV} (h:vL C.tab 1000000000 n 3 xs) : ∃ a,xs = [.v (.int .i64 a)] ∧ (Lit.int .i64 a).wf = true:=by
 cases n with
 | zero=>exact h.elim
 | succ n=>exact h
theorem Qy {n:Nat} {xs:List AV} (h:vL C.tab 1000000000 n 9 xs) : ∃ s:qv,xs = [.v (str s)] ∧ s.length ≤ 1000000000:=by
 cases n with
 | zero=>exact h.elim
 | succ n=>exact h
theorem XJ {n:Nat} {xs:List AV} (h:vL C.tab 1000000000 n 4 xs) : ∃ b,xs = [.v (.bool b)]:=by
 cases n with
 | zero=>exact h.elim
 | succ n=>exact h
theorem X9 {y:AV} (h:JZ C.tab 1000000000 9 y) : ∃ s:qv,y = .v (str s) ∧ s.length ≤ 1000000000:=by
 obtain ⟨n,h⟩:=(show ∃ n,vL C.tab 1000000000 n 9 [y] from h)
 obtain ⟨a,h1,h2⟩:=Qy h
 exact ⟨a,by simpa using h1,h2⟩
def Ent.row (e:Ent):List AV:=[.v (str e.path),.v (.bool e.fold),.v (str e.text),.v (.int .i64 e.ver)]
def Ent.small (e:Ent):Prop:=e.path.length ≤ 1000000000 ∧ e.text.length ≤ 1000000000
def qo (t:List Ent):AV := .sl false (t.map Ent.row)
structure EBig (t:List Ent):Prop where
 each : ∀ e,e ∈ t → e.small
 len:t.length ≤ 1000000000
def Chg.row (c:Chg):List AV:=[.v (.int .i64 c.kind),.v (str c.path),.v (str c.to),.v (str c.text),.v (.int .i64 c.base)]
def Chg.small (c:Chg):Prop:=c.path.length ≤ 1000000000 ∧ c.to.length ≤ 1000000000 ∧ c.text.length ≤ 1000000000
def kN (t:List Chg):AV := .sl false (t.map Chg.row)
structure CBig (t:List Chg):Prop where
 each : ∀ e,e ∈ t → e.small
 len:t.length ≤ 1000000000
theorem XS {n:Nat} {xs:List AV} (h:vL C.tab 1000000000 n 34 xs) : ∃ s:Ent,xs = s.row ∧ s.small:=by
 cases n with
 | zero=>exact h.elim
 | succ n =>
   obtain ⟨_,_,rfl,h0,_,_,rfl,h1,_,_,rfl,h2,_,_,rfl,h3,rfl⟩:=(show z6 C.tab 0 _ = some _ → Va (vL C.tab 1000000000 n) [(0,9),(1,4),(2,9),(3,3)] xs from h) rfl
   obtain ⟨a0,rfl,l0⟩:=Qy h0
   obtain ⟨a1,rfl⟩:=XJ h1
   obtain ⟨a2,rfl,l2⟩:=Qy h2
   obtain ⟨a3,rfl,_⟩:=X8 h3
   exact ⟨⟨a0,a1,a2,a3⟩,rfl,l0,l2⟩
theorem Xo {y:AV} (h:JZ C.tab 1000000000 22 y) : ∃ t:List Ent,y = qo t ∧ EBig t:=by
 obtain ⟨n,h⟩:=(show ∃ n,vL C.tab 1000000000 n 22 [y] from h)
 cases n with
 | zero=>exact h.elim
 | succ n =>
   obtain ⟨rows,he,hb,hr⟩:=(show (4:Nat) ≠ 0 → ∃ rows,[y] = [AV.sl false rows] ∧ rows.length * 48 ≤ 1000000000 ∧ ∀ row,row ∈ rows → vL C.tab 1000000000 n 34 row from h) (by decide)
   obtain ⟨l,rfl,hl⟩:=QI (f:=Ent.row) (ok:=Ent.small) (fun row hrow=>XS (hr row hrow))
   refine ⟨l,by simpa [qo] using he,hl,?_⟩
   simp at hb;omega
end Go.Proofs.YtnhpclmbhbblbaaDoor
