import Derived.Test.YtahbbnfmbohmmaaDoorTy
import Derived.Test.YtahbbnfmbohmmaaDoorMz1
import Derived.Test.YtahbbnfmbohmmaaDoorMz12
import Derived.Test.YtahbbnfmbohmmaaDoorMz5
import Derived.Test.YtahbbnfmbohmmaaDoorMz0
set_option linter.unusedSimpArgs false
set_option linter.unnecessarySimpa false
namespace Go.Proofs.YtahbbnfmbohmmaaDoor
open Go.Ab Go.RowKit
noncomputable def C1:Cx := { C with nh:=1 }
noncomputable def C2:Cx := { C with nh:=2 }
theorem kR {α:Type} {f:α → List AV} {ok:α → Prop} : ∀ {rows:List (List AV)},(∀ row,row ∈ rows → ∃ a,row = f a ∧ ok a) → ∃ l:List α,rows = l.map f ∧ ∀ a,a ∈ l → ok a
 | [],_=>⟨[],rfl,fun a h=>by cases h⟩
 | row :: rows,h=>by
   obtain ⟨a,rfl,ha⟩:=h row (List.mem_cons_self ..)
   obtain ⟨l,rfl,hl⟩:=kR fun r hr=>h r (List.mem_cons_of_mem _ hr)
   exact ⟨a :: l,rfl,fun b hb=>by rcases List.mem_cons.1 hb with rfl|hb;exact ha;exact hl b hb⟩
end Go.Proofs.YtahbbnfmbohmmaaDoor
set_option linter.unusedSimpArgs false
set_option linter.unnecessarySimpa false
set_option maxHeartbeats 1000000
namespace Go.Proofs.YtahbbnfmbohmmaaDoor
open Go.Ab Go.RowKit
set_option maxRecDepth 10000
attribute [local irreducible] Awp jE qY qK Red qA Go.Ab.Fin qp Rz yL qJ qE ResOk jl qL jA qB
theorem Yt (s:qj) (c:UInt8):zb C.P 83 [.v (str s),.v (.int .u8 (c.toNat:Int))] (.v (.int .i64 (Lib.indexByte s c))):=by
 refine qf Tryd.func83 rfl _ Tryd.ntmps83 (Nat.le_of_ble_eq_true rfl) _ Tryd.results83 0 rfl rfl ?_
 repeat' (first|refine zi ?_|(first|(apply qt;apply Wd;exact Tryd.func95;(case hname=>rfl);(case hb=>rfl);(case hnx=>rfl);(case hex=>rfl);(case hx=>rfl);(case hy=>rfl);(case hrun=>exact fun w=>Lib.run_indexByteString _ _ w);(case hr=>rfl);(case hN=>exact nle rfl)))|((first|refine xsC ?_ ?_);all_goals (intro hc;have hp:=hc;try simp at hp;try (exfalso;omega)))|refine jm ?_ ?_)
 apply Vx
 rfl
 simp
end Go.Proofs.YtahbbnfmbohmmaaDoor
set_option linter.unusedSimpArgs false
set_option linter.unnecessarySimpa false
namespace Go.Proofs.YtahbbnfmbohmmaaDoor
open Go.Ab Go.RowKit
theorem xw {n:Nat} {xs:List AV} (h:xP C.tab 1000000000 n 3 xs) : ∃ a,xs = [.v (.int .i64 a)] ∧ (Lit.int .i64 a).wf = true:=by
 cases n with
 | zero=>exact h.elim
 | succ n=>exact h
theorem yX {n:Nat} {xs:List AV} (h:xP C.tab 1000000000 n 9 xs) : ∃ s:qj,xs = [.v (str s)] ∧ s.length ≤ 1000000000:=by
 cases n with
 | zero=>exact h.elim
 | succ n=>exact h
theorem QY {n:Nat} {xs:List AV} (h:xP C.tab 1000000000 n 4 xs) : ∃ b,xs = [.v (.bool b)]:=by
 cases n with
 | zero=>exact h.elim
 | succ n=>exact h
theorem WG {y:AV} (h:Yr C.tab 1000000000 9 y) : ∃ s:qj,y = .v (str s) ∧ s.length ≤ 1000000000:=by
 obtain ⟨n,h⟩:=(show ∃ n,xP C.tab 1000000000 n 9 [y] from h)
 obtain ⟨a,h1,h2⟩:=yX h
 exact ⟨a,by simpa using h1,h2⟩
def Ent.row (e:Ent):List AV:=[.v (str e.path),.v (.bool e.fold),.v (str e.text),.v (.int .i64 e.ver)]
def Ent.small (e:Ent):Prop:=e.path.length ≤ 1000000000 ∧ e.text.length ≤ 1000000000
def jX (t:List Ent):AV := .sl false (t.map Ent.row)
structure EBig (t:List Ent):Prop where
 each : ∀ e,e ∈ t → e.small
 len:t.length ≤ 1000000000
def Chg.row (c:Chg):List AV:=[.v (.int .i64 c.kind),.v (str c.path),.v (str c.to),.v (str c.text),.v (.int .i64 c.base)]
def Chg.small (c:Chg):Prop:=c.path.length ≤ 1000000000 ∧ c.to.length ≤ 1000000000 ∧ c.text.length ≤ 1000000000
def ya (t:List Chg):AV := .sl false (t.map Chg.row)
structure CBig (t:List Chg):Prop where
 each : ∀ e,e ∈ t → e.small
 len:t.length ≤ 1000000000
end Go.Proofs.YtahbbnfmbohmmaaDoor
set_option linter.unusedSimpArgs false
set_option linter.unusedVariables false
namespace Go.Proofs.YtahbbnfmbohmmaaDoor
open Go.Ab Go.RowKit
end Go.Proofs.YtahbbnfmbohmmaaDoor
set_option linter.unusedVariables false
namespace Go.Proofs.YtahbbnfmbohmmaaDoor
open Go.Ab Go.RowKit
def Rqt.row (r:Rqt):List AV:=[.v (.int .i64 r.kind),.v (str r.who),.v (str r.folder),.v (str r.name),.v (str r.key),.v (str r.text),.v (.int .i64 r.number),.v (.int .i64 r.offset),.v (.int .i64 r.base),ya r.chs]
end Go.Proofs.YtahbbnfmbohmmaaDoor
set_option linter.unusedVariables false
namespace Go.Proofs.YtahbbnfmbohmmaaDoor
open Go.Ab Go.RowKit
def Com.row (c:Com):List AV:=[.v (.int .i64 c.num),.v (str c.key),ya c.chs]
def j3 (l:List Com):AV := .sl false (l.map Com.row)
def Pag.row (p:Pag):List AV:=[.v (.bool p.reset),jX p.tree,j3 p.coms,.v (.int .i64 p.cur),.v (.bool p.more)]
def Ans.row (a:Ans):List AV:=[.v (.int .i64 a.err),.v (.int .i64 a.num),.v (.bool a.page.reset),jX a.page.tree,j3 a.page.coms,.v (.int .i64 a.page.cur),.v (.bool a.page.more)]
end Go.Proofs.YtahbbnfmbohmmaaDoor
