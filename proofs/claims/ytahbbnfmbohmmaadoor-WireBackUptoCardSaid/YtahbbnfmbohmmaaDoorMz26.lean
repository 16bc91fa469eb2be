import Derived.Test.YtahbbnfmbohmmaaDoorMz25
import Derived.Test.YtahbbnfmbohmmaaDoorMz21
import Derived.Test.YtahbbnfmbohmmaaDoorMz3
import Derived.Lib.ItoaLen
set_option linter.unusedSimpArgs false
set_option linter.unnecessarySimpa false
set_option linter.unusedVariables false
set_option maxHeartbeats 1000000
namespace Go.Proofs.YtahbbnfmbohmmaaDoor
open Go.Ab Go.RowKit
set_option maxRecDepth 10000
theorem Qy:xo 0:=⟨by decide,by decide⟩
theorem wb:noRqt.fit:=⟨Qy,by decide,by decide,by decide,by decide,by decide,Qy,Qy,Qy,(fun c h=>by cases h),by decide⟩
section steps
variable {C' : Cx} {N:Nat} {all:Array Oper} {es:List Eff} {o:Oper} {os:List Oper} {K:List Eff → St → Prop} {ts:List (Nat × AV)} {hs:List (Nat × HB)} {nx:Nat} {gd:List Nat}
theorem vW {f:FuncId} {args:List Operand} {tys:Array TypeId} {d:Nat} {ty:TypeId} {pos:String} {af:Array Edge} {gg:Option (Nat × Bool)} {ys:List AV} {v:AV} {k:Nat} {row row0 row1:List AV} (q:Nat) (hf:IsFn C'.P f)
  (hc:qp C'.P f ys [.own true k [row0]] v [.own true k [row1]]) (hp1:AV.pure.pureL row1 = true)
  (k' : jE C' N all (⟨gd ++ (ji (.func f) ++ args.flatMap ji),[q],some d,v,[(q,.own true k [row1])],[]⟩ :: es) ⟨(d,v) :: ts,(q,.own true k [row1]) :: hs,nx⟩ os K)
  (hq:qm hs q = .own true k [row]:=by rfl) (hp0:qL (jv 0 [q]) 0 row row0:=by ((repeat (first|exact qU|refine qi (qI rfl) ?_|refine qi KC ?_))<;>fail))
  (hz:qB (jv 0 [q]) [q] (qm hs) (args.map (evA (qn ts))) ys:=by ((repeat' (first|exact je|apply qX|exact jd rfl|exact jF|(apply qo;apply qT;exact .inr (of_decide_eq_true rfl))|(apply qo;apply jN;exact .inr (of_decide_eq_true rfl))|(apply qo;apply jn;exact .inr (of_decide_eq_true rfl))|apply jw|apply jx))<;>fail)) (hr:v.ren (xj (jv 0 [q])) = v:=by rfl) (hN:d < N:=by exact nle rfl):vp C' N all gd es ⟨ts,hs,nx⟩ f args d tys ty pos af gg os K :=
 yV [q] [] [(q,.own true k [row1])] nx v hf hc hz (jr (.own true k [row]) yb (qW hp0) hq rfl) (qM (qW (jf hp1)) jP) k' hr rfl rfl (Nat.le_of_ble_eq_true rfl) (by simp) rfl (fun n hn=>by cases hn) (Nat.le_refl _) hN
end steps
attribute [local irreducible] Awp jE qY qK Red qA Go.Ab.Fin qp Rz yL qJ qE ResOk jl qL jA qB
set_option maxHeartbeats 4000000 in
theorem Qh (s t:qj) (e:Int) (ok:Bool) (q:Rqt) (hw:qp C.P 28 [.v (str s),.clo (.func 29) [] [.op 0 0 0]] [.own true 10 [noRqt.row]] (.v (.bool ok)) [.own true 10 [q.row]])
  (ha:zb C.P 8 [.agg q.row] (.tup [.v (str t),.v (.int .i64 e)])) :
  zb C.P 12 [.v (str s)] (if ok = true ∧ t = s ∧ e = 0 then .tup [.agg q.row,.v (.int .i64 0)] else .tup [.agg noRqt.row,.v (.int .i64 1)]):=by
 unfold noRqt Rqt.row at hw
 unfold Rqt.row at ha
 unfold noRqt Rqt.row
 obtain ⟨q1,q2,q3,q4,q5,q6,q7,q8,q9,q10⟩:=q
 dsimp only at *
 cases ok with
 | false =>
   refine qf Tryd.func12 rfl _ Tryd.ntmps12 (Nat.le_of_ble_eq_true rfl) _ Tryd.results12 0 rfl rfl ?_
   repeat' (first|refine qk ?_|(first|(apply qc Tryd.func28 rfl rfl;intro hIsFn;refine vW 1 hIsFn (hw) rfl ?_)|refine xsF Tryd.func8 (ha ..) ?_)|((first|(apply qb;rfl;rfl;exact nle rfl)|(apply qa;rfl;rfl;exact nle rfl)|refine xsC ?_ ?_);all_goals (intro hc;have hp:=hc;try simp at hp;try (exfalso;omega)))|refine jm ?_ ?_)
   all_goals ((refine yd (rs:=[.cell 2 24,.tmp 3]) ?_;(repeat' (first|exact jC|apply jp|exact jg rfl|exact yo|exact vo|apply jS|apply j7|apply jT|apply j5|apply jG|apply j6|refine vn ?_|apply yM));all_goals rfl))
 | true =>
   by_cases he:e = 0
   ·subst he
    by_cases ht:t = s
    ·subst ht
     refine qf Tryd.func12 rfl _ Tryd.ntmps12 (Nat.le_of_ble_eq_true rfl) _ Tryd.results12 0 rfl rfl ?_
     repeat' (first|refine qk ?_|(first|(apply qc Tryd.func28 rfl rfl;intro hIsFn;refine vW 1 hIsFn (hw) rfl ?_)|refine xsF Tryd.func8 (ha ..) ?_)|((first|(apply qb;rfl;rfl;exact nle rfl)|(apply qa;rfl;rfl;exact nle rfl)|refine xsC ?_ ?_);all_goals (intro hc;have hp:=hc;try simp at hp;try (exfalso;omega)))|refine jm ?_ ?_)
     all_goals try (exfalso;simp at *;done)
     all_goals (rw [if_pos ⟨rfl,rfl,rfl⟩])
     all_goals ((refine yd (rs:=[.cell 2 24,.tmp 3]) ?_;(repeat' (first|exact jC|apply jp|exact jg rfl|exact yo|exact vo|apply jS|apply j7|apply jT|apply j5|apply jG|apply j6|refine vn ?_|apply yM));all_goals rfl))
    ·refine qf Tryd.func12 rfl _ Tryd.ntmps12 (Nat.le_of_ble_eq_true rfl) _ Tryd.results12 0 rfl rfl ?_
     repeat' (first|refine qk ?_|(first|(apply qc Tryd.func28 rfl rfl;intro hIsFn;refine vW 1 hIsFn (hw) rfl ?_)|refine xsF Tryd.func8 (ha ..) ?_)|((first|(apply qb;rfl;rfl;exact nle rfl)|(apply qa;rfl;rfl;exact nle rfl)|refine xsC ?_ ?_);all_goals (intro hc;have hp:=hc;try simp at hp;try (exfalso;omega)))|refine jm ?_ ?_)
     all_goals try (exfalso;simp_all;done)
     all_goals (rw [if_neg (fun h=>ht h.2.1)])
     all_goals ((refine yd (rs:=[.cell 2 24,.tmp 3]) ?_;(repeat' (first|exact jC|apply jp|exact jg rfl|exact yo|exact vo|apply jS|apply j7|apply jT|apply j5|apply jG|apply j6|refine vn ?_|apply yM));all_goals rfl))
   ·refine qf Tryd.func12 rfl _ Tryd.ntmps12 (Nat.le_of_ble_eq_true rfl) _ Tryd.results12 0 rfl rfl ?_
    repeat' (first|refine qk ?_|(first|(apply qc Tryd.func28 rfl rfl;intro hIsFn;refine vW 1 hIsFn (hw) rfl ?_)|refine xsF Tryd.func8 (ha ..) ?_)|((first|(apply qb;rfl;rfl;exact nle rfl)|(apply qa;rfl;rfl;exact nle rfl)|refine xsC ?_ ?_);all_goals (intro hc;have hp:=hc;try simp at hp;try (exfalso;omega)))|refine jm ?_ ?_)
    all_goals try (exfalso;omega)
    all_goals (rw [if_neg (fun h=>he h.2.2)])
    all_goals ((refine yd (rs:=[.cell 2 24,.tmp 3]) ?_;(repeat' (first|exact jC|apply jp|exact jg rfl|exact yo|exact vo|apply jS|apply j7|apply jT|apply j5|apply jG|apply j6|refine vn ?_|apply yM));all_goals rfl))
theorem yF (t:qj):t.length ≤ (xI t).length:=by unfold xI;rw [List.length_append];omega
theorem Ki {α:Type} (T:α → qj) {l:List α} {x:α} (h:x ∈ l):(T x).length ≤ (l.flatMap T).length:=by
 induction l with
 | nil=>cases h
 | cons a l ih =>
   rw [List.flatMap_cons,List.length_append]
   rcases List.mem_cons.1 h with rfl|h
   ·omega
   ·have:=ih h;omega
theorem QD {α:Type} (T:α → qj) {l:List α} {x:α} (h:x ∈ l):(T x).length ≤ (kJ T l).length:=by
 unfold kJ
 rw [List.length_append]
 have:=Ki T h
 omega
theorem ZV {c:Chg} (h:K4 c) (hl:(JN c).length ≤ 1000000000):c.fit:=by
 obtain ⟨h1,h2,h3,h4,h5⟩:=h
 unfold JN at hl
 simp only [List.length_append] at hl
 have a:=yF c.path
 have b:=yF c.to
 have d:=yF c.text
 exact ⟨h1,by omega,by omega,by omega,h5⟩
theorem Jg {l:List Chg} (h:Vq l) (hl:(YF l).length ≤ 1000000000) : ∀ c,c ∈ l → c.fit:=fun c hc=>ZV (h.2 c hc) (Nat.le_trans (QD JN hc) hl)
theorem Xc {q:Rqt} (h:W7 q) (hl:(Xd q).length ≤ 1000000000):q.fit:=by
 obtain ⟨h1,h2,h3,h4,h5,h6,h7,h8,h9,h10⟩:=h
 unfold Xd at hl
 simp only [List.length_append] at hl
 have a:=yF q.who
 have b:=yF q.folder
 have c:=yF q.name
 have d:=yF q.key
 have e:=yF q.text
 exact ⟨h1,by omega,by omega,by omega,by omega,by omega,h7,h8,h9,Jg h10 (by omega),by have:=h10.1;omega⟩
theorem JD (s:qj) (hs:s.length ≤ 1000000000):zb C.P 12 [.v (str s)] (.tup [.agg (yw s).1.row,.v (.int .i64 (yw s).2)]):=by
 cases hq:QS s with
 | none =>
   have hw:=wq s (f:=29) Tryd.func29 rfl rfl 10 noRqt.row noRqt.row rfl rfl (Zn s noRqt hs hq)
   have h:=Qh s _ _ false noRqt hw (Ys noRqt wb)
   rw [if_neg (fun h=>by cases h.1)] at h
   unfold yw
   rw [hq]
   exact h
 | some p =>
   obtain ⟨q,r⟩:=p
   obtain ⟨e1,e2⟩:=rd_rqt.of _ _ _ hq
   have hf:q.fit:=Xc e2 (by have:=congrArg List.length e1;rw [List.length_append] at this;omega)
   have hw:=Vk s r (f:=29) Tryd.func29 rfl rfl 10 noRqt.row q.row rfl rfl (qaz s r q noRqt hs hq)
   have h:=Qh s _ _ _ q hw (Ys q hf)
   unfold yw
   rw [hq]
   dsimp only
   by_cases hr:r = [] ∧ vw q = (s,0)
   ·rw [if_pos hr]
    rw [if_pos ⟨by simpa using hr.1,by rw [hr.2],by rw [hr.2]⟩] at h
    exact h
   ·rw [if_neg hr]
    rw [if_neg (fun h=>hr ⟨by simpa using h.1,Prod.ext h.2.1 h.2.2⟩)] at h
    exact h
end Go.Proofs.YtahbbnfmbohmmaaDoor
set_option linter.unusedSimpArgs false
set_option linter.unnecessarySimpa false
set_option linter.unusedVariables false
set_option maxHeartbeats 1000000
namespace Go.Proofs.YtahbbnfmbohmmaaDoor
open Go.Ab Go.RowKit
set_option maxRecDepth 10000
theorem qaJ {k:Nat} (h:k < 10):Lib.decDigits k = [UInt8.ofNat (48 + k)]:=by rw [Lib.decDigits,dif_pos h]
attribute [local irreducible] Awp jE qY qK Red qA Go.Ab.Fin qp Rz yL qJ qE ResOk jl qL jA qB
@[reducible] def wR (w:WS):HB := .own true 3 [[.v (str w.s),.v (.bool w.g),.v (.bool w.f)]]
end Go.Proofs.YtahbbnfmbohmmaaDoor
set_option linter.unusedSimpArgs false
set_option linter.unnecessarySimpa false
set_option linter.unusedVariables false
set_option maxHeartbeats 1000000
namespace Go.Proofs.YtahbbnfmbohmmaaDoor
open Go.Ab Go.RowKit
set_option maxRecDepth 10000
theorem jK (w:WS) {n:Int} (hn:xo n):(w.numR n).s.length ≤ w.s.length + 22:=by
 unfold WS.numR
 have:=xl hn
 split
 ·exact Nat.le_add_right _ _
 ·simp only [List.length_append];omega
theorem yE (w:WS) (t:qj):(w.txtR t).s.length ≤ w.s.length + 1022:=by
 unfold WS.txtR
 split
 ·exact Nat.le_add_right _ _
 ·have:=jK w (n:=t.length) ⟨by omega,by omega⟩
  simp only [List.length_append]
  omega
theorem ZX (w:WS) {c:Chg} (h:c.fit):(w.chgR c).s.length ≤ w.s.length + 3110:=by
 have h1:=jK w h.kind
 have h2:=yE (w.numR c.kind) c.path
 have h3:=yE ((w.numR c.kind).txtR c.path) c.to
 have h4:=yE (((w.numR c.kind).txtR c.path).txtR c.to) c.text
 have h5:=jK ((((w.numR c.kind).txtR c.path).txtR c.to).txtR c.text) h.base
 unfold WS.chgR
 omega
theorem V6 (l:List Chg) : ∀ (w:WS),(∀ c,c ∈ l → c.fit) → (l.foldl WS.chgR w).s.length ≤ w.s.length + 3110 * l.length:=by
 induction l with
 | nil=>exact fun w _=>Nat.le_refl _
 | cons c l ih =>
   intro w h
   have h1:=ZX w (h c (by simp))
   have h2:=ih (w.chgR c) (fun x hx=>h x (by simp [hx]))
   simp only [List.length_cons,List.foldl_cons]
   omega
theorem Ji (w:WS) {l:List Chg} (h : ∀ c,c ∈ l → c.fit):(w.chgsR l).s.length ≤ w.s.length + 62222:=by
 unfold WS.chgsR
 split
 ·exact Nat.le_add_right _ _
 ·have h1:=V6 l (w.numR l.length) h
  have h2:=jK w (n:=l.length) ⟨by omega,by omega⟩
  omega
attribute [local irreducible] Awp jE qY qK Red qA Go.Ab.Fin qp Rz yL qJ qE ResOk jl qL jA qB
end Go.Proofs.YtahbbnfmbohmmaaDoor
set_option linter.unusedSimpArgs false
set_option linter.unnecessarySimpa false
set_option linter.unusedVariables false
set_option maxHeartbeats 1000000
namespace Go.Proofs.YtahbbnfmbohmmaaDoor
open Go.Ab Go.RowKit
set_option maxRecDepth 10000
def rq0:Rqt:=⟨2,[97],[102],[],[],[],0,0,0,[]⟩
def tx0:qj:=[50,59,49,59,97,49,59,102,48,59,48,59,48,59,48,59,48,59,48,59,48,59]
theorem qak:vw rq0 = (tx0,0):=by
 simp [vw,WS.rqt,WS.nums,WS.num,WS.txts,WS.txt,WS.chgs,WS.lst,WS.done,wK,jV,xI,Lib.itoa,qaJ,ws0,rq0,tx0]
theorem Wy:rq0.fit:=⟨⟨by decide,by decide⟩,by decide,by decide,by decide,by decide,by decide,Qy,Qy,Qy,(fun c h=>by cases h),by decide⟩
attribute [local irreducible] Awp jE qY qK Red qA Go.Ab.Fin qp Rz yL qJ qE ResOk jl qL jA qB
theorem ZL:zb C.P 10 [] (.v (.bool true)):=by
 have c1:=Ys rq0 Wy
 rw [qak] at c1
 have c2:=JD tx0 (by decide)
 rw [Je qak] at c2
 unfold rq0 tx0 Rqt.row ya at c1 c2
 dsimp only [List.map_nil] at c1 c2
 refine qf Tryd.func10 rfl _ Tryd.ntmps10 (Nat.le_of_ble_eq_true rfl) _ Tryd.results10 0 rfl rfl ?_
 repeat' (first|(first|refine xsF Tryd.func8 (c1 ..) ?_|refine xsQ Tryd.func12 (c2 ..) ?_|(apply qt;apply (yg (cs:=[.v (.int .i64 2),.v (str [97]),.v (str [102]),.v (str []),.v (str []),.v (str []),.v (.int .i64 0),.v (.int .i64 0),.v (.int .i64 0),.sl true []]));rfl;rfl;rfl;kernel_rfl;exact nle rfl))|refine qk ?_|((first|(apply qb;rfl;rfl;exact nle rfl)|(apply qa;rfl;rfl;exact nle rfl)|refine xsC ?_ ?_);all_goals (intro hc;have hp:=hc;try simp at hp;try (exfalso;omega)))|refine jm ?_ ?_)
 all_goals ((refine yd (rs:=[.tmp 0]) ?_;(repeat' (first|exact jC|apply jp|exact jg rfl|exact yo|exact vo|apply jS|apply j7|apply jT|apply j5|apply jG|apply j6|refine vn ?_|apply yM));all_goals rfl))
end Go.Proofs.YtahbbnfmbohmmaaDoor
set_option linter.unusedSimpArgs false
set_option linter.unnecessarySimpa false
set_option linter.unusedVariables false
set_option maxHeartbeats 1000000
namespace Go.Proofs.YtahbbnfmbohmmaaDoor
open Go.Ab Go.RowKit
set_option maxRecDepth 10000
@[reducible] def scH (s:qj) (a:Nat) (b:Bool):HB := .own true 3 [[.v (str s),.v (.int .i64 (a:Int)),.v (.bool b)]]
attribute [local irreducible] Awp jE qY qK Red qA Go.Ab.Fin qp Rz yL qJ qE ResOk jl qL jA qB
end Go.Proofs.YtahbbnfmbohmmaaDoor
