import Derived.Test.YtahbbnfmbohmmaaDoorMz26
import Derived.Test.YtahbbnfmbohmmaaDoorMz22
set_option linter.unusedSimpArgs false
set_option linter.unnecessarySimpa false
set_option linter.unusedVariables false
set_option maxHeartbeats 1000000
namespace Go.Proofs.YtahbbnfmbohmmaaDoor
open Go.Ab Go.RowKit
set_option maxRecDepth 10000
attribute [local irreducible] Awp jE qY qK Red qA Go.Ab.Fin qp Rz yL qJ qE ResOk jl qL jA qB
end Go.Proofs.YtahbbnfmbohmmaaDoor
set_option linter.unusedSimpArgs false
set_option linter.unnecessarySimpa false
set_option linter.unusedVariables false
set_option maxHeartbeats 1000000
namespace Go.Proofs.YtahbbnfmbohmmaaDoor
open Go.Ab Go.RowKit
set_option maxRecDepth 10000
attribute [local irreducible] Awp jE qY qK Red qA Go.Ab.Fin qp Rz yL qJ qE ResOk jl qL jA qB
end Go.Proofs.YtahbbnfmbohmmaaDoor
set_option linter.unusedSimpArgs false
set_option linter.unnecessarySimpa false
set_option linter.unusedVariables false
set_option maxHeartbeats 1000000
namespace Go.Proofs.YtahbbnfmbohmmaaDoor
open Go.Ab Go.RowKit
set_option maxRecDepth 10000
theorem Q1 (w:WS) (b:Bool):(w.yesR b).s.length ≤ w.s.length + 22:=by
 unfold WS.yesR
 cases b
 ·exact jK w (n:=0) ⟨by decide,by decide⟩
 ·exact jK w (n:=1) ⟨by decide,by decide⟩
theorem Kd (w:WS) {e:Ent} (h:e.fit):(w.entR e).s.length ≤ w.s.length + 3000:=by
 have h1:=yE w e.path
 have h2:=Q1 (w.txtR e.path) e.fold
 have h3:=yE ((w.txtR e.path).yesR e.fold) e.text
 have h4:=jK (((w.txtR e.path).yesR e.fold).txtR e.text) h.ver
 unfold WS.entR
 omega
theorem Z5 (w:WS) {c:Com} (h:c.fit):(w.comR c).s.length ≤ w.s.length + 64000:=by
 have h1:=jK w h.num
 have h2:=yE (w.numR c.num) c.key
 have h3:=Ji ((w.numR c.num).txtR c.key) h.chs
 unfold WS.comR
 omega
@[reducible] def prw (p:Pag):List AV:=[.v (.bool p.reset),.sl false (p.tree.map Ent.row),.sl false (p.coms.map Com.row),.v (.int .i64 p.cur),.v (.bool p.more)]
attribute [local irreducible] Awp jE qY qK Red qA Go.Ab.Fin qp Rz yL qJ qE ResOk jl qL jA qB
@[reducible] noncomputable def qa1 (D:qj × Int):Exit → St → Prop:=WY C #[ResultVar.tmp 2,ResultVar.tmp 3] 0 (.tup [.v (str D.1),.v (.int .i64 D.2)]) []
@[reducible] def qa2 (p:Pag) (w:WS):St:=⟨[(4,.op 0 0 0),(5,.fp [prw p] 0 0)],[(0,wR w)],1⟩
end Go.Proofs.YtahbbnfmbohmmaaDoor
