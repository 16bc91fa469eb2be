import Derived.Test.YtamejbkifpjhiaaGreatDoorTy
import Derived.Test.YtamejbkifpjhiaaGreatDoorMz1
import Derived.Test.YtamejbkifpjhiaaGreatDoorMz4
import Derived.Test.YtamejbkifpjhiaaGreatDoorMz6
import Derived.Test.YtamejbkifpjhiaaGreatDoorMz0
set_option linter.unusedSimpArgs false
set_option linter.unnecessarySimpa false
namespace Go.Proofs.YtamejbkifpjhiaaGreatDoor
open Go.Ab Go.RowKit
noncomputable def C1:Cx := { C with nh:=1 }
noncomputable def C2:Cx := { C with nh:=2 }
theorem qad {α:Type} {f:α → List AV} {ok:α → Prop} : ∀ {rows:List (List AV)},(∀ row,row ∈ rows → ∃ a,row = f a ∧ ok a) → ∃ l:List α,rows = l.map f ∧ ∀ a,a ∈ l → ok a
 | [],_=>⟨[],rfl,fun a h=>by cases h⟩
 | row :: rows,h=>by
   obtain ⟨a,rfl,ha⟩:=h row (List.mem_cons_self ..)
   obtain ⟨l,rfl,hl⟩:=qad fun r hr=>h r (List.mem_cons_of_mem _ hr)
   exact ⟨a :: l,rfl,fun b hb=>by rcases List.mem_cons.1 hb with rfl|hb;exact ha;exact hl b hb⟩
theorem qcv (s:qP) (hs:s.length ≤ 140737488355328):xH C.P 125 [.v (str s)] (.v (.bool (yq s))):=Kb rfl fun w=>WC s w (by omega)
end Go.Proofs.YtamejbkifpjhiaaGreatDoor
set_option linter.unusedSimpArgs false
set_option linter.unnecessarySimpa false
set_option maxHeartbeats 1000000
namespace Go.Proofs.YtamejbkifpjhiaaGreatDoor
open Go.Ab Go.RowKit
set_option maxRecDepth 10000
attribute [local irreducible] Awp yH jH jw Red ja Go.Ab.Fin qZ Rz vn jr jp ResOk j3 jC yC jA
def kR:qP:=[47]
theorem qeK (s:qP):xH C.P 194 [.v (str s),.v (str kR)] (.v (.int .i64 (s.count 47:Nat))):=by
 refine qc Tryz.func194 rfl _ Tryz.ntmps194 (Nat.le_of_ble_eq_true rfl) _ Tryz.results194 0 rfl rfl ?_
 repeat' (first|refine qn ?_|(first|(apply qi;apply qe9;exact Tryz.func224;(case hname=>rfl);(case hb=>rfl);(case hnx=>rfl);(case hex=>rfl);(case hx=>rfl);(case hy=>rfl);(case hrun=>exact fun w=>Lib.run_countString _ _ w);(case hr=>rfl);(case hN=>exact nle rfl)))|((first|refine xsC ?_ ?_);all_goals (intro hc;have hp:=hc;try simp at hp;try (exfalso;omega)))|refine qX ?_ ?_)
 all_goals try (exfalso;simp_all [kR];done)
 all_goals (apply jY;rfl;simp [Lib.countByte])
theorem qbA (s:qP):xH C.P 169 [.v (str s)] (.v (.bool (j8 s))):=by
 have htg:=Jp s
 refine qc Tryz.func169 rfl _ Tryz.ntmps169 (Nat.le_of_ble_eq_true rfl) _ Tryz.results169 0 rfl rfl ?_
 repeat' (first|refine qn ?_|(first|refine jv Tryz.func194 (qeK s ..) ?_)|((first|refine qf ?_ ?_|refine qe ?_ ?_|refine xsC ?_ ?_);all_goals (intro hc;have hp:=hc;try simp at hp;try (exfalso;omega)))|refine qX ?_ ?_)
 all_goals (apply j6;rfl;rw [htg])
 all_goals first
  | (have h6:¬ 6 ≤ s.count 47:=(by omega)
     simp [h6];omega)
  | (have h6:6 ≤ s.count 47:=(by omega)
     simp [h6];done)
end Go.Proofs.YtamejbkifpjhiaaGreatDoor
set_option linter.unusedSimpArgs false
set_option linter.unnecessarySimpa false
namespace Go.Proofs.YtamejbkifpjhiaaGreatDoor
open Go.Ab Go.RowKit
theorem KT {n:Nat} {xs:List AV} (h:Js C.tab 1000000000 n 3 xs) : ∃ a,xs = [.v (.int .i64 a)] ∧ (Lit.int .i64 a).wf = true:=by
 cases n with
 | zero=>exact h.elim
 | succ n=>exact h
theorem Y4 {n:Nat} {xs:List AV} (h:Js C.tab 1000000000 n 9 xs) : ∃ s:qP,xs = [.v (str s)] ∧ s.length ≤ 1000000000:=by
 cases n with
 | zero=>exact h.elim
 | succ n=>exact h
theorem qeF {n:Nat} {xs:List AV} (h:Js C.tab 1000000000 n 4 xs) : ∃ b,xs = [.v (.bool b)]:=by
 cases n with
 | zero=>exact h.elim
 | succ n=>exact h
def Ent.row (e:Ent):List AV:=[.v (str e.path),.v (.bool e.fold),.v (str e.text),.v (.int .i64 e.ver)]
def Ent.small (e:Ent):Prop:=e.path.length ≤ 1000000000 ∧ e.text.length ≤ 1000000000
def qa (t:List Ent):AV := .sl false (t.map Ent.row)
structure EBig (t:List Ent):Prop where
 each : ∀ e,e ∈ t → e.small
 len:t.length ≤ 1000000000
def Chg.row (c:Chg):List AV:=[.v (.int .i64 c.kind),.v (str c.path),.v (str c.to),.v (str c.text),.v (.int .i64 c.base)]
def Chg.small (c:Chg):Prop:=c.path.length ≤ 1000000000 ∧ c.to.length ≤ 1000000000 ∧ c.text.length ≤ 1000000000
def wE (t:List Chg):AV := .sl false (t.map Chg.row)
structure CBig (t:List Chg):Prop where
 each : ∀ e,e ∈ t → e.small
 len:t.length ≤ 1000000000
theorem qfN {n:Nat} {xs:List AV} (h:Js C.tab 1000000000 n 55 xs) : ∃ s:Ent,xs = s.row ∧ s.small:=by
 cases n with
 | zero=>exact h.elim
 | succ n =>
   obtain ⟨_,_,rfl,h0,_,_,rfl,h1,_,_,rfl,h2,_,_,rfl,h3,rfl⟩:=(show X1 C.tab 0 _ = some _ → qde (Js C.tab 1000000000 n) [(0,9),(1,4),(2,9),(3,3)] xs from h) rfl
   obtain ⟨a0,rfl,l0⟩:=Y4 h0
   obtain ⟨a1,rfl⟩:=qeF h1
   obtain ⟨a2,rfl,l2⟩:=Y4 h2
   obtain ⟨a3,rfl,_⟩:=KT h3
   exact ⟨⟨a0,a1,a2,a3⟩,rfl,l0,l2⟩
theorem qfM {n:Nat} {xs:List AV} (h:Js C.tab 1000000000 n 53 xs) : ∃ s:Chg,xs = s.row ∧ s.small:=by
 cases n with
 | zero=>exact h.elim
 | succ n =>
   obtain ⟨_,_,rfl,h0,_,_,rfl,h1,_,_,rfl,h2,_,_,rfl,h3,_,_,rfl,h4,rfl⟩:=(show X1 C.tab 0 _ = some _ → qde (Js C.tab 1000000000 n) [(0,3),(1,9),(2,9),(3,9),(4,3)] xs from h) rfl
   obtain ⟨a0,rfl,_⟩:=KT h0
   obtain ⟨a1,rfl,l1⟩:=Y4 h1
   obtain ⟨a2,rfl,l2⟩:=Y4 h2
   obtain ⟨a3,rfl,l3⟩:=Y4 h3
   obtain ⟨a4,rfl,_⟩:=KT h4
   exact ⟨⟨a0,a1,a2,a3,a4⟩,rfl,l1,l2,l3⟩
theorem Zj {y:AV} (h:qaq C.tab 1000000000 22 y) : ∃ t:List Ent,y = qa t ∧ EBig t:=by
 obtain ⟨n,h⟩:=(show ∃ n,Js C.tab 1000000000 n 22 [y] from h)
 cases n with
 | zero=>exact h.elim
 | succ n =>
   obtain ⟨rows,he,hb,hr⟩:=(show (4:Nat) ≠ 0 → ∃ rows,[y] = [AV.sl false rows] ∧ rows.length * 48 ≤ 1000000000 ∧ ∀ row,row ∈ rows → Js C.tab 1000000000 n 55 row from h) (by decide)
   obtain ⟨l,rfl,hl⟩:=qad (f:=Ent.row) (ok:=Ent.small) (fun row hrow=>qfN (hr row hrow))
   refine ⟨l,by simpa [qa] using he,hl,?_⟩
   simp at hb;omega
theorem qfL {y:AV} (h:qaq C.tab 1000000000 53 y) : ∃ c:Chg,y = .agg c.row ∧ c.small:=by
 obtain ⟨n,xs,rfl,h2⟩:=(show ∃ n xs,y = .agg xs ∧ Js C.tab 1000000000 n 53 xs from h)
 obtain ⟨c,rfl,hc⟩:=qfM h2
 exact ⟨c,rfl,hc⟩
end Go.Proofs.YtamejbkifpjhiaaGreatDoor
set_option linter.unusedSimpArgs false
set_option linter.unnecessarySimpa false
set_option linter.unusedVariables false
set_option maxHeartbeats 1000000
namespace Go.Proofs.YtamejbkifpjhiaaGreatDoor
open Go.Ab Go.RowKit
set_option maxRecDepth 10000
attribute [local irreducible] Awp yH jH jw Red ja Go.Ab.Fin qZ Rz vn jr jp ResOk j3 jC yC jA
end Go.Proofs.YtamejbkifpjhiaaGreatDoor
