import Derived.Test.YtahbbnfmbohmmaaDoorTy
import Derived.Test.YtahbbnfmbohmmaaDoorMz1
import Derived.Test.YtahbbnfmbohmmaaDoorMz12
import Derived.Test.YtahbbnfmbohmmaaDoorMz5
import Derived.Test.YtahbbnfmbohmmaaDoorMz0
set_option linter.unusedSimpArgs false
set_option linter.unnecessarySimpa false
namespace Go.Proofs.YtahbbnfmbohmmaaDoor
open Go.Ab Go.RowKit
noncomputable def C1:Cx := { C with nh:=1 }
noncomputable def C2:Cx := { C with nh:=2 }
end Go.Proofs.YtahbbnfmbohmmaaDoor
set_option linter.unusedSimpArgs false
set_option linter.unnecessarySimpa false
set_option maxHeartbeats 1000000
namespace Go.Proofs.YtahbbnfmbohmmaaDoor
open Go.Ab Go.RowKit
set_option maxRecDepth 10000
attribute [local irreducible] Awp jE qX qG Red qx Go.Ab.Fin qp Rz yI qE qB ResOk je qJ jx qy
theorem Js (s:qh) (c:UInt8):kg C.P 83 [.v (str s),.v (.int .u8 (c.toNat:Int))] (.v (.int .i64 (Lib.indexByte s c))):=by
 refine qe Tryd.func83 rfl _ Tryd.ntmps83 (Nat.le_of_ble_eq_true rfl) _ Tryd.results83 0 rfl rfl ?_
 repeat' (first|refine kf ?_|(first|(apply qo;apply ZF;exact Tryd.func95;(case hname=>rfl);(case hb=>rfl);(case hnx=>rfl);(case hex=>rfl);(case hx=>rfl);(case hy=>rfl);(case hrun=>exact fun w=>Lib.run_indexByteString _ _ w);(case hr=>rfl);(case hN=>exact nle rfl)))|((first|refine xsC ?_ ?_);all_goals (intro hc;have hp:=hc;try simp at hp;try (exfalso;omega)))|refine jl ?_ ?_)
 apply Xe
 rfl
 simp
end Go.Proofs.YtahbbnfmbohmmaaDoor
set_option linter.unusedSimpArgs false
set_option linter.unnecessarySimpa false
namespace Go.Proofs.YtahbbnfmbohmmaaDoor
open Go.Ab Go.RowKit
theorem Ka {n:Nat} {xs:List AV} (h:kD C.tab 1000000000 n 9 xs) : ∃ s:qh,xs = [.v (str s)] ∧ s.length ≤ 1000000000:=by
 cases n with
 | zero=>exact h.elim
 | succ n=>exact h
theorem Z9 {y:AV} (h:Xy C.tab 1000000000 9 y) : ∃ s:qh,y = .v (str s) ∧ s.length ≤ 1000000000:=by
 obtain ⟨n,h⟩:=(show ∃ n,kD C.tab 1000000000 n 9 [y] from h)
 obtain ⟨a,h1,h2⟩:=Ka h
 exact ⟨a,by simpa using h1,h2⟩
def Ent.row (e:Ent):List AV:=[.v (str e.path),.v (.bool e.fold),.v (str e.text),.v (.int .i64 e.ver)]
def Ent.small (e:Ent):Prop:=e.path.length ≤ 1000000000 ∧ e.text.length ≤ 1000000000
structure EBig (t:List Ent):Prop where
 each : ∀ e,e ∈ t → e.small
 len:t.length ≤ 1000000000
def Chg.row (c:Chg):List AV:=[.v (.int .i64 c.kind),.v (str c.path),.v (str c.to),.v (str c.text),.v (.int .i64 c.base)]
def Chg.small (c:Chg):Prop:=c.path.length ≤ 1000000000 ∧ c.to.length ≤ 1000000000 ∧ c.text.length ≤ 1000000000
def jz (t:List Chg):AV := .sl false (t.map Chg.row)
structure CBig (t:List Chg):Prop where
 each : ∀ e,e ∈ t → e.small
 len:t.length ≤ 1000000000
end Go.Proofs.YtahbbnfmbohmmaaDoor
set_option linter.unusedSimpArgs false
set_option linter.unusedVariables false
namespace Go.Proofs.YtahbbnfmbohmmaaDoor
open Go.Ab Go.RowKit
end Go.Proofs.YtahbbnfmbohmmaaDoor
set_option linter.unusedVariables false
namespace Go.Proofs.YtahbbnfmbohmmaaDoor
open Go.Ab Go.RowKit
def Rqt.row (r:Rqt):List AV:=[.v (.int .i64 r.kind),.v (str r.who),.v (str r.folder),.v (str r.name),.v (str r.key),.v (str r.text),.v (.int .i64 r.number),.v (.int .i64 r.offset),.v (.int .i64 r.base),jz r.chs]
end Go.Proofs.YtahbbnfmbohmmaaDoor
