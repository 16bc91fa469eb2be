import Derived.Test.YtahbbnfmbohmmaaDoorMz23
import Derived.Tactics
import Derived.Tactics2
import Derived.Defers
import Derived.Recover
import Derived.Laws.Pointers
set_option linter.unusedSimpArgs false
set_option linter.unnecessarySimpa false
set_option linter.unusedVariables false
namespace Go.Proofs.YtahbbnfmbohmmaaDoor
open Go.Ab Go.RowKit
set_option maxRecDepth 10000
def k8 (p:Addr) (w w' : World) (x:Value):Prop:=w'.os = w.os ∧ w'.tape = w.tape ∧ w'.output = w.output ∧ w.heap.size ≤ w'.heap.size ∧ (∀ b,b < w.heap.size → b ≠ p.block → w'.heap[b]? = w.heap[b]?) ∧ w'.cell? p = some x
theorem Z4 (w:World):(Instr.typeAssert (.iface 100 (.agg #[])) 20 100 true).run Tryd.prog w = .ok (.tuple #[.agg #[],.bool true]) w:=by
 simp [Instr.typeAssert,run_underlying Tryd.underlying100]
theorem Z3 (w:World):(Instr.typeAssert .nilIface 20 100 true).run Tryd.prog w = .ok (.tuple #[.agg #[],.bool false]) w:=by
 simp [Instr.typeAssert,run_underlying Tryd.underlying100,Tryd.zeroValue100]
set_option maxHeartbeats 1000000 in
theorem XF (p:Addr) (b:Bool) (w:World) (hp:p.block < w.heap.size) (hc:w.cell? p = some (.bool b)) (hz:w.frozen? p = false) :
  CallsD Tryd.prog 58 #[.pointer (some p)] (.panicking zv) w fun e u' w'=>e = .returned (.tuple #[]) ∧ u' = .panicking [{ v := .iface 100 (.agg #[]),recovered:=true }] ∧ w' = (w.alloc (.cells #[] 100)).setCell p (.bool false):=by
 refine callsD_of_wpS Tryd.func58 rfl fun c₀ cs hu=>?_
 have hc2:(w.alloc (.cells #[] 100)).cell? p = some (.bool b):=by
  unfold World.cell? at hc ⊢
  rw [Below.heap_alloc _ _ _ hp]
  exact hc
 have hz2:(w.alloc (.cells #[] 100)).frozen? p = false:=by
  unfold World.frozen? at hz ⊢
  rw [Below.heap_alloc _ _ _ hp]
  exact hz
 apply wpS_seq
 apply wpS_region
 simp [wpOpsS,go_sem,recoverD,hu,zv,Tryd.ntmps58,Exit.thenS,Z4,storeCells]
 apply wpS_seq
 apply wpS_region
 simp [wpOpsS,go_sem,Exit.thenS]
 refine wpS_cond (t:=true) (by simp [Act.eval,Array.replicate]) ?_
 simp only [if_true]
 apply wpS_region
 simp [wpOpsS,go_sem,hc2,hz2,bodyPostS,results,Tryd.results58]
set_option maxHeartbeats 1000000 in
theorem Ym (p:Addr) (w:World) :
  CallsD Tryd.prog 58 #[.pointer (some p)] .returning w fun e u' w'=>e = .returned (.tuple #[]) ∧ u' = .returning ∧ w' = w.alloc (.cells #[] 100):=by
 refine callsD_of_wpS Tryd.func58 rfl fun c₀ cs hu=>?_
 apply wpS_seq
 apply wpS_region
 simp [wpOpsS,go_sem,recoverD,hu,zv,Tryd.ntmps58,Exit.thenS,Z3,storeCells]
 apply wpS_seq
 apply wpS_region
 simp [wpOpsS,go_sem,Exit.thenS]
 refine wpS_cond (t:=false) (by simp [Act.eval,Array.replicate]) ?_
 simp only [Bool.false_eq_true,if_false]
 refine wpS_of_wp (wp_skip ?_)
 cases c₀
 simp_all [bodyPostS,results,Tryd.results58]
end Go.Proofs.YtahbbnfmbohmmaaDoor
set_option linter.unusedSimpArgs false
set_option linter.unnecessarySimpa false
set_option linter.unusedVariables false
namespace Go.Ab
open Go.RowKit
theorem OwnAt.world {F:Still} {ρ:Places} {w w' : World} {n:Nat} {hb:HB} (h:OwnAt F ρ w n hb) (hw : ∀ b c,hb.isOwn = true → ρ n = some (some (b,c)) → w'.heap[b]? = w.heap[b]?):OwnAt F ρ w' n hb:=by
 cases hb with
 | dead=>trivial
 | fz rows=>exact h
 | own ex k rows =>
   rcases h with h|⟨b,cap,c,e,h1,h2,h3⟩
   ·exact .inl h
   ·exact .inr ⟨b,cap,c,e,h1,by rw [hw b _ rfl h1];exact h2,h3⟩
 | mp l =>
   obtain ⟨b,o,kc,h1,h2,h3⟩:=h
   exact ⟨b,o,kc,h1,by rw [hw b _ rfl h1];exact h2,h3⟩
theorem Hp.turned {B B' : Base} {A:Nat → Prop} {h h' : Nat → HB} {F:Still} {ρ:Places} {w w' : World} (hp:Hp B A h F ρ w) {n0 b0:Nat} {c0:Nat × Nat} (ho:(h n0).isOwn = true) (hρ:ρ n0 = some (some (b0,c0)))
  (hB:B'.w0 = B.w0 ∧ B'.F0 = B.F0 ∧ B'.O0 = B.O0) (hN : ∀ n c,B'.ρ0 n = some c → ρ n = some c)
  (hos:w'.os = w.os) (ht:w'.tape = w.tape) (hout:w'.output = w.output) (hsz:w.heap.size ≤ w'.heap.size) (hb : ∀ b,b < w.heap.size → b ≠ b0 → w'.heap[b]? = w.heap[b]?)
  (hh : ∀ n,h' n = .dead ∨ (h' n = h n ∧ n ≠ n0)):Hp B' (fun _=>True) h' F ρ w':=by
 obtain ⟨e1,e2,e3⟩:=hB
 have hnew:=hp.new n0 b0 c0 ho hρ
 have newB : ∀ b,B.new b → B'.new b:=fun b hn=>by unfold Base.new at hn ⊢;rw [e1,e3];exact hn
 refine { kept:=⟨by rw [hos,hp.kept.os,e1],by rw [ht,hp.kept.tape,e1],by rw [hout,hp.kept.output,e1],by rw [e1];exact Nat.le_trans hp.kept.size hsz,fun b hlt hO=>?_⟩,agree:=fun b o hF=>?_,grow:=by rw [e2];exact hp.grow,fresh:=fun b hF=>?_,names:=hN,dom:=fun _ _=>trivial,own:=fun n=>?_,new:=fun n b c hn hr=>?_,sep:=fun n m b c c' hne hn hm hr hr'=>?_ }
 ·rw [e1] at hlt ⊢
  rw [e3] at hO
  rw [hb b (Nat.lt_of_lt_of_le hlt hp.kept.size) (by rintro rfl;rcases hnew.2 with h|h; · omega
                                                     ·exact hO h)]
  exact hp.kept.block b hlt hO
 ·have h0:=hp.agree b o hF
  rw [hb b (Array.getElem?_eq_some_iff.1 h0).1 (by rintro rfl;rw [hnew.1] at hF;cases hF)]
  exact h0
 ·rcases hp.fresh b hF with h|h
  ·exact .inl (by rw [e2];exact h)
  ·exact .inr (newB b h)
 ·rcases hh n with h1|⟨h1,h2⟩
  ·rw [h1];trivial
  ·rw [h1]
   refine (hp.own n).world fun b c hio hr=>?_
   refine hb b (hp.blk hio hr) ?_
   rintro rfl
   exact hp.sep n n0 b c c0 h2 hio ho hr hρ
 ·rcases hh n with h1|⟨h1,h2⟩
  ·rw [h1] at hn;cases hn
  ·rw [h1] at hn
   exact ⟨(hp.new n b c hn hr).1,newB b (hp.new n b c hn hr).2⟩
 ·rcases hh n with h1|⟨h1,h2⟩
  ·rw [h1] at hn;cases hn
  ·rcases hh m with g1|⟨g1,g2⟩
   ·rw [g1] at hm;cases hm
   ·rw [h1] at hn
    rw [g1] at hm
    exact hp.sep n m b c c' hne hn hm hr hr'
end Go.Ab
set_option maxHeartbeats 1000000
namespace Go.Proofs.YtahbbnfmbohmmaaDoor
open Go.Ab Go.RowKit
set_option maxRecDepth 10000
noncomputable def wholeCode:Code:=match Tryd.f28.body with|some c=>c|none => .skip
@[reducible] def Jr (s:qh) (f:FuncId) (k:Nat) (row0:List AV):St:=⟨[(0,.v (str s)),(1,.clo (.func f) [] [.op 0 0 0]),(4,.op 1 0 0)],[(0,.own true k [row0]),(1,.own true 1 [[.v (.bool false)]])],2⟩
noncomputable def WC:Code:=match wholeCode with | .seq c _=>c|_ => .skip
noncomputable def wh1:Code:=match wholeCode with | .seq _ (.seq c _)=>c|_ => .skip
noncomputable def wh2:Code:=match wholeCode with | .seq _ (.seq _ c)=>c|_ => .skip
theorem Wn:wholeCode = .seq WC (.seq wh1 wh2):=rfl
def Wy (K:St → Prop):Exit → St → Prop
 | .normal,σ=>K σ
 | _,_=>False
def Ww (K:St → Prop):Exit → St → Prop
 | .normal,σ | .ret,σ=>K σ
 | _,_=>False
def Wz (ch:List PanicEntry) (K:List (Nat × AV) → List (Nat × HB) → Prop):Exit → St → Prop
 | .panic c,σ=>c = ch ∧ K σ.ts σ.hs
 | .normal,σ | .ret,σ => ∃ d,qj σ.ts d = jR
 | _,_=>False
def VN (k:Nat) (row1:List AV) (ts:List (Nat × AV)) (hs:List (Nat × HB)):Prop:=qj ts 4 = .op 1 0 0 ∧ qn hs 0 = .own true k [row1] ∧ qn hs 1 = .own true 1 [[.v (.bool false)]]
@[reducible] noncomputable def WD (k:Nat) (row1:List AV):Cx := { C2 with die:=fun c ts hs=>c = zv ∧ VN k row1 ts hs }
theorem Xf {L:List (Nat × Nat)} {nh:Nat} {σ:St} {k:Nat} {row row' : List AV} {ok ok' : Bool} (h0:qn σ.hs 0 = .own true k [row]) (h1:qn σ.hs 1 = .own true 1 [[.v (.bool ok)]]) (m0:Maps L nh 0 0) (m1:Maps L nh 1 1) (hr:row = row') (hok:ok = ok') (hp:AV.pure.pureL row' = true):jN L nh σ [(0,.own true k [row']),(1,.own true 1 [[.v (.bool ok')]])]:=by
 subst hr hok
 exact ⟨⟨0,m0,by rw [h0];exact ⟨id,rfl,jY (qP hp) yd⟩⟩,⟨1,m1,by rw [h1];exact ⟨id,rfl,jY (qP rfl) yd⟩⟩,trivial⟩
section steps
variable {C' : Cx} {N:Nat} {all:Array Oper} {es:List Eff} {o:Oper} {os:List Oper} {K:List Eff → St → Prop} {ts:List (Nat × AV)} {hs:List (Nat × HB)} {nx:Nat} {gd:List Nat}
theorem ZV {f:FuncId} {fn:Func} {x:Operand} {args:List Operand} {tys:Array TypeId} {d:Nat} {ty:TypeId} {pos:String} {af:Array Edge} {gg:Option (Nat × Bool)} {s:qh} {k:Nat} {row0 row1:List AV} {ys:List AV} {first cap:List AV} (hf:C'.P.funcs[f]? = some fn) (hb0:fn.body.isNone = false) (hn0:(fn.name == "runtime.NumGoroutine") = false)
  (hdo:xz C'.P f ys [jW s,.own true k [row0]] zv fun H' => ∃ x,H' = [x,.own true k [row1]]) (hp0:AV.pure.pureL row0 = true) (hp1:AV.pure.pureL row1 = true)
  (hdie:C'.die zv [(4,qj ts 4)] ([(2,.dead),(0,.own true k [row1])] ++ [2,0,1].map fun n=>(n,qn hs n)))
  (k' : jE C' N all (⟨gd ++ (qU x ++ args.flatMap qU ++ [4]),[2,0,1],some d,jR,[],[]⟩ :: es) ⟨(d,jR) :: ts,hs,nx⟩ os K)
  (hx:evA (qj ts) x = .clo (.func f) first cap:=by rfl)
  (h2:qn hs 2 = jW s:=by rfl) (h0:qn hs 0 = .own true k [row0]:=by rfl)
  (hz:qy (jv 0 [2,0]) [2,0,1] (qn hs) (first ++ args.map (evA (qj ts)) ++ cap) ys:=by ((repeat' (first|exact jq|apply jf|exact jp rfl|exact jQ|(apply qv;apply jg;exact .inr (of_decide_eq_true rfl))|(apply qv;apply jX;exact .inr (of_decide_eq_true rfl))|(apply qv;apply jr;exact .inr (of_decide_eq_true rfl))|apply jC|apply jD))<;>fail)) (hN:d < N:=by exact nle rfl) (hd4:d ∉ [4]:=by simp):qX C' N all gd es ⟨ts,hs,nx⟩ ⟨some d,.call ⟨.value x,args.toArray,tys⟩,ty,pos,af,gg⟩ os K:=by
 refine JV (H:=[jW s,.own true k [row0]]) (ch:=zv) (f:=f) (xs:=first ++ args.map (evA (qj ts)) ++ cap) _ [2,0,1] [2,0] [4] rfl hN (yV f (jh hf hb0 hn0) x args tys first cap hx) rfl (by simp) (fun n hn=>by simp at hn;simp;omega) hz ?_ hdo ?_ hd4 k'
 ·have hg:vD (jv 0 [2,0]) (qn hs) [2,0] [jW s,.own true k [row0]]:=js (jW s) (js (.own true k [row0]) j1 (ja (qP hp0)) h0 rfl) (ja (qP rfl)) h2 rfl
  exact fun i n hb hi hj=>zg hg i n hb hi hj
 ·rintro H' ⟨x,rfl⟩
  refine ⟨[(2,.dead),(0,.own true k [row1])],rfl,?_,hdie⟩
  intro i n hb hz
  rcases i with _|_|i
  ·simp at hz;obtain ⟨rfl,rfl⟩:=hz;exact jP
  ·simp at hz;obtain ⟨rfl,rfl⟩:=hz;exact ja (qP hp1)
  ·simp at hz
end steps
section walks
attribute [local irreducible] Awp jE qX qG Red qx Go.Ab.Fin qp Rz yI qE qB ResOk je qJ jx qy
theorem KQ (s:qh) (f:FuncId) (k:Nat) (row0:List AV) (hp:AV.pure.pureL row0 = true):Awp C1 18 WC (Wy fun σ=>Red C1 σ (Jr s f k row0)) ⟨qK 0 [.v (str s),.clo (.func f) [] [.op 0 0 0]],xl 0 [.own true k [row0]],1⟩:=by
 unfold WC wholeCode
 repeat' (first|refine qm ?_|fail|((first|(apply qb;rfl;rfl;exact nle rfl)|(apply qa;rfl;rfl;exact nle rfl)|refine xsC ?_ ?_);all_goals (intro hc;have hp:=hc;try simp at hp;try (exfalso;omega)))|refine jl ?_ ?_)
 unfold Jr
 refine (qH (C:=C1) [(1,1)] rfl ?_ (Xf rfl rfl (qf rfl) (qf rfl) rfl rfl hp))
 exact qV (KI (yh qt) (qf rfl))
theorem KS (s r:qh) {f:FuncId} {fn:Func} (hf:C.P.funcs[f]? = some fn) (hb0:fn.body.isNone = false) (hn0:(fn.name == "runtime.NumGoroutine") = false) (k:Nat) (row0 row1:List AV) (hp0:AV.pure.pureL row0 = true) (hp1:AV.pure.pureL row1 = true)
  (hdo:qp C2.P f [.op 0 0 0,.op 1 0 0] [jW s,.own true k [row0]] (.tup []) [jW r,.own true k [row1]]) :
  Awp C2 18 wh2 (Ww fun σ=>Red C2 σ ⟨[(4,.op 1 0 0)],[(0,.own true k [row1]),(1,.own true 1 [[.v (.bool (decide (r = [])))]])],2⟩) (Jr s f k row0):=by
 unfold wh2 wholeCode Jr
 repeat' (first|refine qm ?_|(first|(refine wS (C:=C2) (first:=[]) (cap:=[.op 0 0 0]) [2,0] [] [(2,jW r),(0,.own true k [row1])] 3 (.tup []) hf hdo (by ((repeat' (first|exact jq|apply jf|exact jp rfl|exact jQ|(apply qv;apply jg;exact .inr (of_decide_eq_true rfl))|(apply qv;apply jX;exact .inr (of_decide_eq_true rfl))|(apply qv;apply jr;exact .inr (of_decide_eq_true rfl))|apply jC|apply jD)))<;>fail) (js (jW s) (js (.own true k [row0]) j1 (ja (qP hp0)) rfl rfl) (ja (qP rfl)) rfl rfl) (qZ (ja (qP rfl)) (qZ (ja (qP hp1)) jS)) ?_ rfl hb0 hn0))|((first|(apply qb;rfl;rfl;exact nle rfl)|(apply qa;rfl;rfl;exact nle rfl)|refine xsC ?_ ?_);all_goals (intro hc;have hp:=hc;try simp at hp;try (exfalso;omega)))|refine jl ?_ ?_)
 show Red _ _ _
 refine qH (C:=C2) [] rfl (yh qt) (Xf rfl rfl (qf rfl) (qf rfl) rfl rfl hp1)
theorem YU (s:qh) {f:FuncId} {fn:Func} (hf:C.P.funcs[f]? = some fn) (hb0:fn.body.isNone = false) (hn0:(fn.name == "runtime.NumGoroutine") = false) (k:Nat) (row0 row1:List AV) (hp0:AV.pure.pureL row0 = true) (hp1:AV.pure.pureL row1 = true)
  (hdo:xz C2.P f [.op 0 0 0,.op 1 0 0] [jW s,.own true k [row0]] zv fun H' => ∃ x,H' = [x,.own true k [row1]]) :
  Awp (WD k row1) 18 wh2 (Wz zv (VN k row1)) (Jr s f k row0):=by
 unfold wh2 wholeCode Jr
 repeat' (first|refine qm ?_|(first|((refine ZV (C':=WD k row1) (first:=[]) (cap:=[.op 0 0 0]) hf hb0 hn0 hdo hp0 hp1 ⟨rfl,rfl,rfl,rfl⟩ ?_);(repeat (first|exact qL 12 rfl|exact ⟨12,rfl⟩|refine qM (d:=12) rfl (nle rfl) ?_|(apply qT;exact nle rfl;refine ⟨?_,?_⟩;(first|exact fun h=>absurd h Bool.false_ne_true|(intro _;kernel_rfl)))));done))|((first|(apply qb;rfl;rfl;exact nle rfl)|(apply qa;rfl;rfl;exact nle rfl)|refine xsC ?_ ?_);all_goals (intro hc;have hp:=hc;try simp at hp;try (exfalso;omega)))|refine jl ?_ ?_)
end walks
def JT (p:Addr):Deferred := { target := .fn (.func 58) #[.pointer (some p)],args := #[] }
theorem KR {Q:Exit → Act → World → Prop} {a:Act} {w:World} {p:Addr} (hn:a.tmps.size = 18) (h4:a.tmps.getD 4 undef = .pointer (some p)) (h : ∀ v,Q .normal { tmps:=a.tmps.setIfInBounds 6 v,defers:=JT p :: a.defers } w):wh1.wp Tryd.prog Q a w:=by
 unfold wh1 wholeCode
 have h4' : a.tmps[4]?.getD undef = .pointer (some p):=by rw [← h4,Array.getD_eq_getD_getElem?]
 apply wp_region
 simp [wpOps,go_sem,hn]
 refine .inl (.inl ?_)
 have h4'' : a.tmps[4] = .pointer (some p):=by
  rw [Array.getElem?_eq_getElem (by omega)] at h4'
  exact h4'
 rw [h4'']
 exact h _
def Yx (B:Base) (ρ:Places) (p:Addr):Base := { B with N:=18,ρ0:=fun n=>if n < 2 then ρ n else none,ds:=[JT p] }
theorem KP {B:Base} {s:qh} {f:FuncId} {k:Nat} {row0:List AV} {a:Act} {w:World} (hds : [] = B.ds) (g:Gs { B with N:=18 } (Jr s f k row0) a w) :
  ∃ ρ p c,a.tmps.size = 18 ∧ a.tmps.getD 4 undef = .pointer (some p) ∧ p.off = 0 ∧ p.spot = none ∧ (∀ n c,B.ρ0 n = some c → ρ n = some c) ∧ ρ 1 = some (some (p.block,c)) ∧ ∀ v,Gs (Yx B ρ p) (Jr s f k row0) { tmps:=a.tmps.setIfInBounds 6 v,defers:=JT p :: a.defers } w:=by
 obtain ⟨g1,g2,F,ρ,hp,g4⟩:=g
 obtain ⟨b,k',cap,e1,e2⟩:=(g4 4).op_inv
 refine ⟨ρ,⟨b,0 * k' + 0,none⟩,(k',cap),g2,e2,by simp,rfl,fun n c h=>hp.names n c h,e1,fun v=>⟨?_,(by show Array.size _ = 18;rw [Array.size_setIfInBounds];exact g2),F,ρ,?_,fun i=>?_⟩⟩
 ·show JT _ :: a.defers = [JT _]
  have:a.defers = []:=by rw [hds];exact g1
  rw [this]
 ·exact { kept:=⟨hp.kept.os,hp.kept.tape,hp.kept.output,hp.kept.size,hp.kept.block⟩,agree:=hp.agree,grow:=hp.grow,fresh:=hp.fresh,names:=fun n c h=>by
            simp only [Yx] at h
            split at h
            ·exact h
            ·cases h
          dom:=hp.dom,own:=hp.own,new:=hp.new,sep:=hp.sep }
 ·show M F ρ ((a.tmps.setIfInBounds 6 v).getD i undef) _
  by_cases hi:i = 6
  ·subst hi;exact .junk _ _
  ·have:(a.tmps.setIfInBounds 6 v).getD i undef = a.tmps.getD i undef:=by
    simp only [Array.getD_eq_getD_getElem?,Array.getElem?_setIfInBounds]
    rw [if_neg (Ne.symm hi)]
   rw [this]
   exact g4 i
theorem V4 {F:Still} {ρ:Places} {w:World} {n b:Nat} {ok:Bool} {c:Nat × Nat} (h:OwnAt F ρ w n (.own true 1 [[.v (.bool ok)]])) (hρ:ρ n = some (some (b,c))):w.cell? ⟨b,0,none⟩ = some (.bool ok) ∧ w.frozen? ⟨b,0,none⟩ = false:=by
 rcases h with ⟨h1,h2⟩|⟨b',cap,cs,e,h1,h2,h3,h4,h5,h6⟩
 ·cases h2
 ·rw [hρ] at h1
  simp only [Option.some.injEq,Prod.mk.injEq] at h1
  obtain ⟨rfl,rfl⟩:=h1
  have hcap:cap = 1:=h5 rfl
  subst hcap
  have hlt:0 < cs.size:=by omega
  have:=h6.2 0 0 _ _ cs[0] rfl rfl (by simp [hlt])
  have hv:=this.v_inv.1
  constructor
  ·unfold World.cell?
   simp only [h2]
   simp [hlt,hv]
  ·unfold World.frozen?
   simp only [h2]
   simp
theorem Zq {B:Base} {ρ:Places} {p:Addr} {cc:Nat × Nat} {σ:St} {a:Act} {w:World} {k:Nat} {row1:List AV} {ok:Bool} (hds : [] = B.ds) (hoff:p.off = 0) (hspot:p.spot = none) (hρB : ∀ n c,B.ρ0 n = some c → ρ n = some c) (hρ0 : ∀ n,B.ρ0 n ≠ none → n < 1) (hρ1:ρ 1 = some (some (p.block,cc)))
  (g:Gs (Yx B ρ p) σ a w) (t4:qj σ.ts 4 = .op 1 0 0) (h0:qn σ.hs 0 = .own true k [row1]) (h1:qn σ.hs 1 = .own true 1 [[.v (.bool ok)]]) :
  p.block < w.heap.size ∧ w.cell? p = some (.bool ok) ∧ w.frozen? p = false ∧ a.defers = [JT p] ∧ ∀ w' ok',k8 p w w' (.bool ok') → ∃ v,(results Tryd.f28 a.tmps).run Tryd.prog w' = .ok v w' ∧
   Ga { B with N:=1 } (fun _=>True) (one (.v (.bool ok'))) (fun n=>([.own true k [row1]]:List HB).getD n .dead) ⟨#[v],[]⟩ w':=by
 obtain ⟨g1,g2,F,ρ',hp,g4⟩:=g
 have hp1:ρ' 1 = some (some (p.block,cc)):=hp.names 1 _ (by simpa [Yx] using hρ1)
 have hpe:p = ⟨p.block,0,none⟩:=by
  obtain ⟨pb,po,ps⟩:=p
  simp_all
 have hob:(qn σ.hs 1).isOwn = true:=by rw [h1];rfl
 have ho:=V4 (h1 ▸ hp.own 1) hp1
 refine ⟨hp.blk hob hp1,hpe ▸ ho.1,hpe ▸ ho.2,g1,?_⟩
 rintro w' ok' ⟨c1,c2,c3,c4,c5,c6⟩
 have hm4:=g4 4
 rw [t4] at hm4
 obtain ⟨b,k',cap,e1,e2⟩:=hm4.op_inv
 have hb:b = p.block:=by rw [hp1] at e1;simp at e1;exact e1.1.symm
 have e2' : a.tmps.getD 4 undef = .pointer (some p):=by rw [e2,hpe,hb];simp
 refine ⟨.bool ok',?_,hds,rfl,F,ρ',?_,?_⟩
 ·have e3:a.tmps[4]?.getD undef = .pointer (some p):=by rw [← e2',Array.getD_eq_getD_getElem?]
  simp [results,Tryd.results28,go_sem,e3,c6]
 ·refine Hp.turned hp hob hp1 ⟨rfl,rfl,rfl⟩ (fun n c hn=>?_) c1 c2 c3 c4 c5 (fun n=>?_)
  ·have hlt:=hρ0 n (by rw [hn];simp)
   refine hp.names n c ?_
   show (if n < 2 then ρ n else none) = _
   rw [if_pos (by omega)]
   exact hρB n c hn
  ·match n with
   | 0=>exact .inr ⟨h0.symm,by omega⟩
   | n + 1=>exact .inl (by simp)
 ·intro i
  match i with
  | 0=>exact .v _ _ rfl
  | i + 1=>exact .junk _ _
theorem kE {P:Program} {f:FuncId} {args:Array Value} {u:FrameMode} {w:World} {R R' : Ending → FrameMode → World → Prop} (h:CallsD P f args u w R) (hr : ∀ e u' w',R e u' w' → R' e u' w'):CallsD P f args u w R':=fun c cs hm=>by
 obtain ⟨e,u',w',fr,h1,h2⟩:=h c cs hm
 exact ⟨e,u',w',fr,hr _ _ _ h1,h2⟩
theorem kF {p:Addr} {w:World} {ok:Bool} (hp:p.block < w.heap.size) (hc:w.cell? p = some (.bool ok)) (c:Obj):k8 p w (w.alloc c) (.bool ok):=by
 refine ⟨rfl,rfl,rfl,by simp,fun b hb _=>Below.heap_alloc _ _ _ hb,?_⟩
 unfold World.cell? at hc ⊢
 rw [Below.heap_alloc _ _ _ hp]
 exact hc
theorem Yn {p:Addr} {w:World} {ok:Bool} (hp:p.block < w.heap.size) (hc:w.cell? p = some (.bool ok)) (c:Obj):k8 p w ((w.alloc c).setCell p (.bool false)) (.bool false):=by
 refine ⟨rfl,rfl,rfl,by simp,fun b hb hne=>?_,?_⟩
 ·rw [Below.heap_setCell _ _ _ _ hne]
  exact Below.heap_alloc _ _ _ hb
 ·refine World.cell?_setCell_same' _ _ _ ?_
  have:=(kF hp hc c).2.2.2.2.2
  rw [this];rfl
theorem Yw {R:Ending → World → Prop} {tmps:Array Value} {p:Addr} {w:World} {ok:Bool} (hp:p.block < w.heap.size) (hc:w.cell? p = some (.bool ok)) (h : ∀ w',k8 p w w' (.bool ok) → ∃ v,(results Tryd.f28 tmps).run Tryd.prog w' = .ok v w' ∧ R (.returned v) w') :
  Leaves Tryd.prog Tryd.f28 tmps R [JT p] .returning w:=by
 refine leaves_cons (f:=58) (args := #[.pointer (some p)]) (by simp) (by simp [invoke,go_sem]) ?_
 refine kE (Ym p w) ?_
 rintro e u' w' ⟨rfl,rfl,rfl⟩
 exact h _ (kF hp hc _)
theorem XZ {R:Ending → World → Prop} {tmps:Array Value} {p:Addr} {w:World} {ok:Bool} (hp:p.block < w.heap.size) (hc:w.cell? p = some (.bool ok)) (hz:w.frozen? p = false) (h : ∀ w',k8 p w w' (.bool false) → ∃ v,(results Tryd.f28 tmps).run Tryd.prog w' = .ok v w' ∧ R (.returned v) w') :
  Leaves Tryd.prog Tryd.f28 tmps R [JT p] (.panicking zv) w:=by
 refine leaves_cons (f:=58) (args := #[.pointer (some p)]) (by simp) (by simp [invoke,go_sem]) ?_
 refine kE (XF p ok w hp hc hz) ?_
 rintro e u' w' ⟨rfl,rfl,rfl⟩
 exact h _ (Yn hp hc _)
theorem Xw {s:qh} {f:FuncId} {k:Nat} {row0:List AV} (hp0:AV.pure.pureL row0 = true) {B:Base} {vs:List Value} {w:World} {R:Ending → World → Prop} (hvs:vs.length = 2) (hBN:B.N = vs.length)
  (g:Ga B (fun n=>n < 1) (fun i => [AV.v (str s),.clo (.func f) [] [.op 0 0 0]].getD i .junk) (fun n=>([.own true k [row0]]:List HB).getD n .dead) ⟨vs.toArray,[]⟩ w)
  (h : ∀ (ρ:Places) (p:Addr) cc (a:Act) (w:World),[] = B.ds → p.off = 0 → p.spot = none → (∀ n c,B.ρ0 n = some c → ρ n = some c) → (∀ n,B.ρ0 n ≠ none → n < 1) → ρ 1 = some (some (p.block,cc)) → KX C2 18 (Yx B ρ p) → Gs (Yx B ρ p) (Jr s f k row0) a w →
   wh2.wp Tryd.prog (bodyPostD Tryd.prog Tryd.f28 R) a w):Calls Tryd.prog 28 vs.toArray w R:=by
 obtain ⟨hρ0,hds,g'⟩:=zt (args:=[AV.v (str s),.clo (.func f) [] [.op 0 0 0]]) (H:=[.own true k [row0]]) (N:=18) (Tryd.ntmps28) (by simp) hvs hBN g
 refine calls_of_wp_defers Tryd.func28 rfl ?_
 show wholeCode.wp _ _ _ _
 rw [Wn]
 refine wp_seq (wp_mono (KQ s f k row0 hp0 { B with N:=18 } _ w ⟨rfl,hρ0⟩ g') ?_)
 rintro e a1 w1 ⟨σ1,q1,g1⟩
 cases e with
 | normal =>
   have g2:=q1 { B with N:=18 } _ _ hρ0 g1
   obtain ⟨ρ,p,cc,m1,m2,m3,m4,m5,m6,m7⟩:=KP hds g2
   refine wp_seq (KR m1 m2 fun v=>?_)
   refine h ρ p cc _ _ hds m3 m4 m5 hρ0 m6 ⟨rfl,fun n hn=>?_⟩ (m7 v)
   simp only [Yx] at hn
   split at hn
   ·assumption
   ·exact absurd rfl hn
 | _=>exact q1.elim
theorem ZA (s r:qh) {f:FuncId} {fn:Func} (hf:C.P.funcs[f]? = some fn) (hb0:fn.body.isNone = false) (hn0:(fn.name == "runtime.NumGoroutine") = false) (k:Nat) (row0 row1:List AV) (hp0:AV.pure.pureL row0 = true) (hp1:AV.pure.pureL row1 = true)
  (hdo:qp C2.P f [.op 0 0 0,.op 1 0 0] [jW s,.own true k [row0]] (.tup []) [jW r,.own true k [row1]]) :
  qp C1.P 28 [.v (str s),.clo (.func f) [] [.op 0 0 0]] [.own true k [row0]] (.v (.bool (decide (r = [])))) [.own true k [row1]]:=by
 intro B vs w hvs hBN g
 refine Xw hp0 hvs hBN g fun ρ p cc a w h1 h2 h3 h4 h5 h6 hfit g2=>?_
 refine wp_mono (KS s r hf hb0 hn0 k row0 row1 hp0 hp1 hdo _ _ _ hfit g2) ?_
 rintro e a' w' ⟨σ',q,g'⟩
 have hend : ∀ (q:Red C2 σ' ⟨[(4,.op 1 0 0)],[(0,.own true k [row1]),(1,.own true 1 [[.v (.bool (decide (r = [])))]])],2⟩) (R:Ending → World → Prop),(∀ v w'',Ga { B with N:=1 } (fun _=>True) (one (.v (.bool (decide (r = []))))) (fun n=>([.own true k [row1]]:List HB).getD n .dead) ⟨#[v],[]⟩ w'' → R (.returned v) w'') →
   Leaves Tryd.prog Tryd.f28 a'.tmps R a'.defers .returning w':=by
  intro q R hR
  obtain ⟨k1,k2,k3,k4,k5⟩:=Zq h1 h2 h3 h4 h5 h6 (q _ _ _ hfit.2 g') rfl rfl rfl
  rw [k4]
  refine Yw k1 k2 fun w'' hcg=>?_
  obtain ⟨v,v1,v2⟩:=k5 w'' _ hcg
  exact ⟨v,v1,hR _ _ v2⟩
 cases e with
 | normal=>exact hend q _ fun v w'' hg=>⟨v,rfl,hg⟩
 | ret=>exact hend q _ fun v w'' hg=>⟨v,rfl,hg⟩
 | _=>exact q.elim
theorem Jv (s:qh) {f:FuncId} {fn:Func} (hf:C.P.funcs[f]? = some fn) (hb0:fn.body.isNone = false) (hn0:(fn.name == "runtime.NumGoroutine") = false) (k:Nat) (row0 row1:List AV) (hp0:AV.pure.pureL row0 = true) (hp1:AV.pure.pureL row1 = true)
  (hdo:xz C2.P f [.op 0 0 0,.op 1 0 0] [jW s,.own true k [row0]] zv fun H' => ∃ x,H' = [x,.own true k [row1]]) :
  qp C1.P 28 [.v (str s),.clo (.func f) [] [.op 0 0 0]] [.own true k [row0]] (.v (.bool false)) [.own true k [row1]]:=by
 intro B vs w hvs hBN g
 refine Xw hp0 hvs hBN g fun ρ p cc a w h1 h2 h3 h4 h5 h6 hfit g2=>?_
 refine wp_mono (YU s hf hb0 hn0 k row0 row1 hp0 hp1 hdo _ _ _ hfit g2) ?_
 rintro e a' w' ⟨σ',q,g'⟩
 cases e with
 | normal=>obtain ⟨d,hd⟩:=q;exact (kT hd g').elim
 | ret=>obtain ⟨d,hd⟩:=q;exact (kT hd g').elim
 | panic c =>
   obtain ⟨rfl,q1,q2,q3⟩:=q
   obtain ⟨k1,k2,k3,k4,k5⟩:=Zq h1 h2 h3 h4 h5 h6 g' q1 q2 q3
   show Leaves _ _ _ _ _ _ _
   rw [k4]
   refine XZ k1 k2 k3 fun w'' hcg=>?_
   obtain ⟨v,v1,v2⟩:=k5 w'' _ hcg
   exact ⟨v,v1,v,rfl,v2⟩
 | _=>exact q.elim
end Go.Proofs.YtahbbnfmbohmmaaDoor
set_option linter.unusedSimpArgs false
set_option linter.unnecessarySimpa false
set_option linter.unusedVariables false
set_option maxHeartbeats 1000000
namespace Go.Proofs.YtahbbnfmbohmmaaDoor
open Go.Ab Go.RowKit
set_option maxRecDepth 10000
theorem ZM {L:List (Nat × Nat)} {nh:Nat} {σ:St} {q q' n n' k:Nat} {s s' : qh} {row row' : List AV} {rest:List (Nat × HB)} (hq:qn σ.hs q = jW s) (hn:qn σ.hs n = .own true k [row]) (h1:Maps L nh q q') (h2:Maps L nh n n') (hs:s = s') (hr:row = row') (hp:AV.pure.pureL row' = true) (hl:jN L nh σ rest):jN L nh σ ((q',jW s') :: (n',.own true k [row']) :: rest):=by
 subst hs hr
 exact yt hq h1 rfl ⟨⟨n,h2,by rw [hn];exact ⟨id,rfl,jY (qP hp) yd⟩⟩,hl⟩
theorem yS {H:List (Nat × HB)} {k:Nat} {row:List AV} (h:qn H 1 = .own true k [row]) : ∃ H',(∃ x,H' = [x,.own true k [row]]) ∧ ∀ n,H'.getD n .dead = qn H n ∨ H'.getD n .dead = .dead :=
 ⟨[.dead,.own true k [row]],⟨_,rfl⟩,fun n=>match n with|0 => .inr rfl|1 => .inl h.symm|n + 2 => .inr (by simp)⟩
theorem XI {s r:qh} {l:List Chg} (h:vq s = some (l,r)):r.length ≤ s.length:=by
 rw [(rd_chgs.of _ _ _ h).1,List.length_append];omega
theorem Zg {s r:qh} {x:_} (h:zD s = some (x,r)) : ∃ s1 s2 s3 s4 s5 s6 s7 s8 s9,jd s = some (x.kind,s1) ∧ qI s1 = some (x.who,s2) ∧ qI s2 = some (x.folder,s3) ∧ qI s3 = some (x.name,s4) ∧ qI s4 = some (x.key,s5) ∧ qI s5 = some (x.text,s6) ∧ jd s6 = some (x.number,s7) ∧ jd s7 = some (x.offset,s8) ∧ jd s8 = some (x.base,s9) ∧ vq s9 = some (x.chs,r):=by
 unfold zD at h
 repeat' (split at h)
 all_goals first
  | (cases h;done)
  | skip
 rename_i h1 _ _ _ h2 _ _ _ h3 _ _ _ h4 _ _ _ h5 _ _ _ h6 _ _ _ h7 _ _ _ h8 _ _ _ h9 _ _ _ h10
 injection h with h
 injection h with e1 e2
 subst e1 e2
 exact ⟨_,_,_,_,_,_,_,_,_,h1,h2,h3,h4,h5,h6,h7,h8,h9,h10⟩
theorem X8 {s:qh} (h:zD s = none):jd s = none ∨ ∃ a s1,jd s = some (a,s1) ∧ (qI s1 = none ∨ ∃ b s2,qI s1 = some (b,s2) ∧ (qI s2 = none ∨ ∃ c s3,qI s2 = some (c,s3) ∧ (qI s3 = none ∨ ∃ d s4,qI s3 = some (d,s4) ∧ (qI s4 = none ∨ ∃ e s5,qI s4 = some (e,s5) ∧ (qI s5 = none ∨ ∃ f s6,qI s5 = some (f,s6) ∧ (jd s6 = none ∨ ∃ g s7,jd s6 = some (g,s7) ∧ (jd s7 = none ∨ ∃ h s8,jd s7 = some (h,s8) ∧ (jd s8 = none ∨ ∃ i s9,jd s8 = some (i,s9) ∧ (vq s9 = none))))))))):=by
 unfold zD at h
 cases h1:jd s with
 | none=>exact .inl rfl
 | some z =>
   obtain ⟨v1,s1⟩:=z
   rw [h1] at h
   simp only at h
   refine .inr ⟨v1,s1,rfl,?_⟩
   cases h2:qI s1 with
   | none=>exact .inl rfl
   | some z =>
     obtain ⟨v2,s2⟩:=z
     rw [h2] at h
     simp only at h
     refine .inr ⟨v2,s2,rfl,?_⟩
     cases h3:qI s2 with
     | none=>exact .inl rfl
     | some z =>
       obtain ⟨v3,s3⟩:=z
       rw [h3] at h
       simp only at h
       refine .inr ⟨v3,s3,rfl,?_⟩
       cases h4:qI s3 with
       | none=>exact .inl rfl
       | some z =>
         obtain ⟨v4,s4⟩:=z
         rw [h4] at h
         simp only at h
         refine .inr ⟨v4,s4,rfl,?_⟩
         cases h5:qI s4 with
         | none=>exact .inl rfl
         | some z =>
           obtain ⟨v5,s5⟩:=z
           rw [h5] at h
           simp only at h
           refine .inr ⟨v5,s5,rfl,?_⟩
           cases h6:qI s5 with
           | none=>exact .inl rfl
           | some z =>
             obtain ⟨v6,s6⟩:=z
             rw [h6] at h
             simp only at h
             refine .inr ⟨v6,s6,rfl,?_⟩
             cases h7:jd s6 with
             | none=>exact .inl rfl
             | some z =>
               obtain ⟨v7,s7⟩:=z
               rw [h7] at h
               simp only at h
               refine .inr ⟨v7,s7,rfl,?_⟩
               cases h8:jd s7 with
               | none=>exact .inl rfl
               | some z =>
                 obtain ⟨v8,s8⟩:=z
                 rw [h8] at h
                 simp only at h
                 refine .inr ⟨v8,s8,rfl,?_⟩
                 cases h9:jd s8 with
                 | none=>exact .inl rfl
                 | some z =>
                   obtain ⟨v9,s9⟩:=z
                   rw [h9] at h
                   simp only at h
                   refine .inr ⟨v9,s9,rfl,?_⟩
                   cases h10:vq s9 with
                   | none=>rfl
                   | some z =>
                     rw [h10] at h
                     cases h
attribute [local irreducible] Awp jE qX qG Red qx Go.Ab.Fin qp Rz yI qE qB ResOk je qJ jx qy
set_option maxHeartbeats 4000000 in
theorem Wh (s r:qh) (q q0:Rqt) (hs:s.length ≤ 1000000000) (h:zD s = some (q,r)):qp C2.P 29 [.op 0 0 0,.op 1 0 0] [jW s,.own true 10 [q0.row]] (.tup []) [jW r,.own true 10 [q.row]]:=by
 obtain ⟨s1,s2,s3,s4,s5,s6,s7,s8,s9,h1,h2,h3,h4,h5,h6,h7,h8,h9,h10⟩:=Zg h
 clear h
 obtain ⟨v1,v2,v3,v4,v5,v6,v7,v8,v9,v10⟩:=q
 dsimp only at *
 have c1:=jT s s1 _ (by omega) h1
 have l1:=qR h1
 have c2:=ji s1 _ s2 (by omega) h2
 have l2:=qw h2
 have c3:=ji s2 _ s3 (by omega) h3
 have l3:=qw h3
 have c4:=ji s3 _ s4 (by omega) h4
 have l4:=qw h4
 have c5:=ji s4 _ s5 (by omega) h5
 have l5:=qw h5
 have c6:=ji s5 _ s6 (by omega) h6
 have l6:=qw h6
 have c7:=jT s6 s7 _ (by omega) h7
 have l7:=qR h7
 have c8:=jT s7 s8 _ (by omega) h8
 have l8:=qR h8
 have c9:=jT s8 s9 _ (by omega) h9
 have l9:=qR h9
 have c10:=X4 s9 r _ (by omega) h10
 have l10:=XI h10
 clear h1 h2 h3 h4 h5 h6 h7 h8 h9 h10
 unfold Rqt.row
 refine qe (C:=C2) Tryd.func29 rfl _ Tryd.ntmps29 (Nat.le_of_ble_eq_true rfl) _ Tryd.results29 2 rfl rfl ?_
 repeat' (first|(first|(apply qc Tryd.func30 rfl rfl;intro hIsFn;refine qS 0 hIsFn (c1) ?_)|(apply qc Tryd.func31 rfl rfl;intro hIsFn;refine qS 0 hIsFn (c2) ?_)|(apply qc Tryd.func31 rfl rfl;intro hIsFn;refine qS 0 hIsFn (c3) ?_)|(apply qc Tryd.func31 rfl rfl;intro hIsFn;refine qS 0 hIsFn (c4) ?_)|(apply qc Tryd.func31 rfl rfl;intro hIsFn;refine qS 0 hIsFn (c5) ?_)|(apply qc Tryd.func31 rfl rfl;intro hIsFn;refine qS 0 hIsFn (c6) ?_)|(apply qc Tryd.func30 rfl rfl;intro hIsFn;refine qS 0 hIsFn (c7) ?_)|(apply qc Tryd.func30 rfl rfl;intro hIsFn;refine qS 0 hIsFn (c8) ?_)|(apply qc Tryd.func30 rfl rfl;intro hIsFn;refine qS 0 hIsFn (c9) ?_)|(apply qc Tryd.func32 rfl rfl;intro hIsFn;refine qS 0 hIsFn (c10) ?_)|(apply qo;apply (xW (cs:=[.v (.int .i64 v1),.v (str v2),.v (str v3),.v (str v4),.v (str v5),.v (str v6),.v (.int .i64 v7),.v (.int .i64 v8),.v (.int .i64 v9),jz v10]));rfl;rfl;rfl;kernel_rfl;exact nle rfl))|refine qm ?_|((first|(apply qb;rfl;rfl;exact nle rfl)|(apply qa;rfl;rfl;exact nle rfl)|refine xsC ?_ ?_);all_goals (intro hc;have hp:=hc;try simp at hp;try (exfalso;omega)))|refine jl ?_ ?_)
 all_goals ((apply qu (rs:=[]) [] 2;(case hr=>(repeat (first|exact qk|(apply ql;rfl)|(apply qi;rfl;rfl;rfl;rfl;rfl))));(case hL=>rfl);(case hh=>(refine ZM (q:=0) (n:=1) rfl rfl (qf rfl) (qf rfl) ?_ ?_ ?_ qg;all_goals rfl));(case hi=>exact rfl);(case hz=>first|rfl|(simp [jt,AV.ren,AV.ren.renL,qQ,qj,qK];done))))
set_option maxHeartbeats 4000000 in
theorem YE (s:qh) (q0:Rqt) (hs:s.length ≤ 1000000000) (h1:jd s = none):xz C2.P 29 [.op 0 0 0,.op 1 0 0] [jW s,.own true 10 [q0.row]] zv (fun H' => ∃ x,H' = [x,.own true 10 [q0.row]]):=by
 have cd:=yR s (by omega) h1
 clear h1
 refine qA (C:=C2) Tryd.func29 rfl _ Tryd.ntmps29 (Nat.le_of_ble_eq_true rfl) 2 rfl rfl ?_
 repeat' (first|refine qm ?_|(first|((refine jO (first:=[]) (cap:=[]) 0 [1] (jh Tryd.func30 rfl rfl) (cd) rfl (⟨rfl,yS rfl⟩) ?_);(repeat (first|exact qL 4 rfl|exact ⟨4,rfl⟩|refine qM (d:=4) rfl (nle rfl) ?_|(apply qT;exact nle rfl;refine ⟨?_,?_⟩;(first|exact fun h=>absurd h Bool.false_ne_true|(intro _;kernel_rfl)))));done))|((first|(apply qb;rfl;rfl;exact nle rfl)|(apply qa;rfl;rfl;exact nle rfl)|refine xsC ?_ ?_);all_goals (intro hc;have hp:=hc;try simp at hp;try (exfalso;omega)))|refine jl ?_ ?_)
set_option maxHeartbeats 4000000 in
theorem YF (s:qh) (q0:Rqt) (hs:s.length ≤ 1000000000) {v1:Int} {s1:qh} (h1:jd s = some (v1,s1)) (h2:qI s1 = none):xz C2.P 29 [.op 0 0 0,.op 1 0 0] [jW s,.own true 10 [q0.row]] zv (fun H' => ∃ x,H' = [x,.own true 10 [q0.row]]):=by
 have c1:=jT s s1 _ (by omega) h1
 have l1:=qR h1
 have cd:=yz s1 (by omega) h2
 clear h1 h2
 refine qA (C:=C2) Tryd.func29 rfl _ Tryd.ntmps29 (Nat.le_of_ble_eq_true rfl) 2 rfl rfl ?_
 repeat' (first|refine qm ?_|(first|(apply qc Tryd.func30 rfl rfl;intro hIsFn;refine qS 0 hIsFn (c1) ?_)|((refine jO (first:=[]) (cap:=[]) 0 [1] (jh Tryd.func31 rfl rfl) (cd) rfl (⟨rfl,yS rfl⟩) ?_);(repeat (first|exact qL 6 rfl|exact ⟨6,rfl⟩|refine qM (d:=6) rfl (nle rfl) ?_|(apply qT;exact nle rfl;refine ⟨?_,?_⟩;(first|exact fun h=>absurd h Bool.false_ne_true|(intro _;kernel_rfl)))));done))|((first|(apply qb;rfl;rfl;exact nle rfl)|(apply qa;rfl;rfl;exact nle rfl)|refine xsC ?_ ?_);all_goals (intro hc;have hp:=hc;try simp at hp;try (exfalso;omega)))|refine jl ?_ ?_)
set_option maxHeartbeats 4000000 in
theorem YG (s:qh) (q0:Rqt) (hs:s.length ≤ 1000000000) {v1:Int} {v2:qh} {s1:qh} {s2:qh} (h1:jd s = some (v1,s1)) (h2:qI s1 = some (v2,s2)) (h3:qI s2 = none):xz C2.P 29 [.op 0 0 0,.op 1 0 0] [jW s,.own true 10 [q0.row]] zv (fun H' => ∃ x,H' = [x,.own true 10 [q0.row]]):=by
 have c1:=jT s s1 _ (by omega) h1
 have l1:=qR h1
 have c2:=ji s1 _ s2 (by omega) h2
 have l2:=qw h2
 have cd:=yz s2 (by omega) h3
 clear h1 h2 h3
 refine qA (C:=C2) Tryd.func29 rfl _ Tryd.ntmps29 (Nat.le_of_ble_eq_true rfl) 2 rfl rfl ?_
 repeat' (first|refine qm ?_|(first|(apply qc Tryd.func30 rfl rfl;intro hIsFn;refine qS 0 hIsFn (c1) ?_)|(apply qc Tryd.func31 rfl rfl;intro hIsFn;refine qS 0 hIsFn (c2) ?_)|((refine jO (first:=[]) (cap:=[]) 0 [1] (jh Tryd.func31 rfl rfl) (cd) rfl (⟨rfl,yS rfl⟩) ?_);(repeat (first|exact qL 8 rfl|exact ⟨8,rfl⟩|refine qM (d:=8) rfl (nle rfl) ?_|(apply qT;exact nle rfl;refine ⟨?_,?_⟩;(first|exact fun h=>absurd h Bool.false_ne_true|(intro _;kernel_rfl)))));done))|((first|(apply qb;rfl;rfl;exact nle rfl)|(apply qa;rfl;rfl;exact nle rfl)|refine xsC ?_ ?_);all_goals (intro hc;have hp:=hc;try simp at hp;try (exfalso;omega)))|refine jl ?_ ?_)
set_option maxHeartbeats 4000000 in
theorem YH (s:qh) (q0:Rqt) (hs:s.length ≤ 1000000000) {v1:Int} {v2:qh} {v3:qh} {s1:qh} {s2:qh} {s3:qh} (h1:jd s = some (v1,s1)) (h2:qI s1 = some (v2,s2)) (h3:qI s2 = some (v3,s3)) (h4:qI s3 = none):xz C2.P 29 [.op 0 0 0,.op 1 0 0] [jW s,.own true 10 [q0.row]] zv (fun H' => ∃ x,H' = [x,.own true 10 [q0.row]]):=by
 have c1:=jT s s1 _ (by omega) h1
 have l1:=qR h1
 have c2:=ji s1 _ s2 (by omega) h2
 have l2:=qw h2
 have c3:=ji s2 _ s3 (by omega) h3
 have l3:=qw h3
 have cd:=yz s3 (by omega) h4
 clear h1 h2 h3 h4
 refine qA (C:=C2) Tryd.func29 rfl _ Tryd.ntmps29 (Nat.le_of_ble_eq_true rfl) 2 rfl rfl ?_
 repeat' (first|refine qm ?_|(first|(apply qc Tryd.func30 rfl rfl;intro hIsFn;refine qS 0 hIsFn (c1) ?_)|(apply qc Tryd.func31 rfl rfl;intro hIsFn;refine qS 0 hIsFn (c2) ?_)|(apply qc Tryd.func31 rfl rfl;intro hIsFn;refine qS 0 hIsFn (c3) ?_)|((refine jO (first:=[]) (cap:=[]) 0 [1] (jh Tryd.func31 rfl rfl) (cd) rfl (⟨rfl,yS rfl⟩) ?_);(repeat (first|exact qL 10 rfl|exact ⟨10,rfl⟩|refine qM (d:=10) rfl (nle rfl) ?_|(apply qT;exact nle rfl;refine ⟨?_,?_⟩;(first|exact fun h=>absurd h Bool.false_ne_true|(intro _;kernel_rfl)))));done))|((first|(apply qb;rfl;rfl;exact nle rfl)|(apply qa;rfl;rfl;exact nle rfl)|refine xsC ?_ ?_);all_goals (intro hc;have hp:=hc;try simp at hp;try (exfalso;omega)))|refine jl ?_ ?_)
set_option maxHeartbeats 4000000 in
theorem YI (s:qh) (q0:Rqt) (hs:s.length ≤ 1000000000) {v1:Int} {v2:qh} {v3:qh} {v4:qh} {s1:qh} {s2:qh} {s3:qh} {s4:qh} (h1:jd s = some (v1,s1)) (h2:qI s1 = some (v2,s2)) (h3:qI s2 = some (v3,s3)) (h4:qI s3 = some (v4,s4)) (h5:qI s4 = none):xz C2.P 29 [.op 0 0 0,.op 1 0 0] [jW s,.own true 10 [q0.row]] zv (fun H' => ∃ x,H' = [x,.own true 10 [q0.row]]):=by
 have c1:=jT s s1 _ (by omega) h1
 have l1:=qR h1
 have c2:=ji s1 _ s2 (by omega) h2
 have l2:=qw h2
 have c3:=ji s2 _ s3 (by omega) h3
 have l3:=qw h3
 have c4:=ji s3 _ s4 (by omega) h4
 have l4:=qw h4
 have cd:=yz s4 (by omega) h5
 clear h1 h2 h3 h4 h5
 refine qA (C:=C2) Tryd.func29 rfl _ Tryd.ntmps29 (Nat.le_of_ble_eq_true rfl) 2 rfl rfl ?_
 repeat' (first|refine qm ?_|(first|(apply qc Tryd.func30 rfl rfl;intro hIsFn;refine qS 0 hIsFn (c1) ?_)|(apply qc Tryd.func31 rfl rfl;intro hIsFn;refine qS 0 hIsFn (c2) ?_)|(apply qc Tryd.func31 rfl rfl;intro hIsFn;refine qS 0 hIsFn (c3) ?_)|(apply qc Tryd.func31 rfl rfl;intro hIsFn;refine qS 0 hIsFn (c4) ?_)|((refine jO (first:=[]) (cap:=[]) 0 [1] (jh Tryd.func31 rfl rfl) (cd) rfl (⟨rfl,yS rfl⟩) ?_);(repeat (first|exact qL 12 rfl|exact ⟨12,rfl⟩|refine qM (d:=12) rfl (nle rfl) ?_|(apply qT;exact nle rfl;refine ⟨?_,?_⟩;(first|exact fun h=>absurd h Bool.false_ne_true|(intro _;kernel_rfl)))));done))|((first|(apply qb;rfl;rfl;exact nle rfl)|(apply qa;rfl;rfl;exact nle rfl)|refine xsC ?_ ?_);all_goals (intro hc;have hp:=hc;try simp at hp;try (exfalso;omega)))|refine jl ?_ ?_)
set_option maxHeartbeats 4000000 in
theorem YJ (s:qh) (q0:Rqt) (hs:s.length ≤ 1000000000) {v1:Int} {v2:qh} {v3:qh} {v4:qh} {v5:qh} {s1:qh} {s2:qh} {s3:qh} {s4:qh} {s5:qh} (h1:jd s = some (v1,s1)) (h2:qI s1 = some (v2,s2)) (h3:qI s2 = some (v3,s3)) (h4:qI s3 = some (v4,s4)) (h5:qI s4 = some (v5,s5)) (h6:qI s5 = none):xz C2.P 29 [.op 0 0 0,.op 1 0 0] [jW s,.own true 10 [q0.row]] zv (fun H' => ∃ x,H' = [x,.own true 10 [q0.row]]):=by
 have c1:=jT s s1 _ (by omega) h1
 have l1:=qR h1
 have c2:=ji s1 _ s2 (by omega) h2
 have l2:=qw h2
 have c3:=ji s2 _ s3 (by omega) h3
 have l3:=qw h3
 have c4:=ji s3 _ s4 (by omega) h4
 have l4:=qw h4
 have c5:=ji s4 _ s5 (by omega) h5
 have l5:=qw h5
 have cd:=yz s5 (by omega) h6
 clear h1 h2 h3 h4 h5 h6
 refine qA (C:=C2) Tryd.func29 rfl _ Tryd.ntmps29 (Nat.le_of_ble_eq_true rfl) 2 rfl rfl ?_
 repeat' (first|refine qm ?_|(first|(apply qc Tryd.func30 rfl rfl;intro hIsFn;refine qS 0 hIsFn (c1) ?_)|(apply qc Tryd.func31 rfl rfl;intro hIsFn;refine qS 0 hIsFn (c2) ?_)|(apply qc Tryd.func31 rfl rfl;intro hIsFn;refine qS 0 hIsFn (c3) ?_)|(apply qc Tryd.func31 rfl rfl;intro hIsFn;refine qS 0 hIsFn (c4) ?_)|(apply qc Tryd.func31 rfl rfl;intro hIsFn;refine qS 0 hIsFn (c5) ?_)|((refine jO (first:=[]) (cap:=[]) 0 [1] (jh Tryd.func31 rfl rfl) (cd) rfl (⟨rfl,yS rfl⟩) ?_);(repeat (first|exact qL 14 rfl|exact ⟨14,rfl⟩|refine qM (d:=14) rfl (nle rfl) ?_|(apply qT;exact nle rfl;refine ⟨?_,?_⟩;(first|exact fun h=>absurd h Bool.false_ne_true|(intro _;kernel_rfl)))));done))|((first|(apply qb;rfl;rfl;exact nle rfl)|(apply qa;rfl;rfl;exact nle rfl)|refine xsC ?_ ?_);all_goals (intro hc;have hp:=hc;try simp at hp;try (exfalso;omega)))|refine jl ?_ ?_)
set_option maxHeartbeats 4000000 in
theorem YK (s:qh) (q0:Rqt) (hs:s.length ≤ 1000000000) {v1:Int} {v2:qh} {v3:qh} {v4:qh} {v5:qh} {v6:qh} {s1:qh} {s2:qh} {s3:qh} {s4:qh} {s5:qh} {s6:qh} (h1:jd s = some (v1,s1)) (h2:qI s1 = some (v2,s2)) (h3:qI s2 = some (v3,s3)) (h4:qI s3 = some (v4,s4)) (h5:qI s4 = some (v5,s5)) (h6:qI s5 = some (v6,s6)) (h7:jd s6 = none):xz C2.P 29 [.op 0 0 0,.op 1 0 0] [jW s,.own true 10 [q0.row]] zv (fun H' => ∃ x,H' = [x,.own true 10 [q0.row]]):=by
 have c1:=jT s s1 _ (by omega) h1
 have l1:=qR h1
 have c2:=ji s1 _ s2 (by omega) h2
 have l2:=qw h2
 have c3:=ji s2 _ s3 (by omega) h3
 have l3:=qw h3
 have c4:=ji s3 _ s4 (by omega) h4
 have l4:=qw h4
 have c5:=ji s4 _ s5 (by omega) h5
 have l5:=qw h5
 have c6:=ji s5 _ s6 (by omega) h6
 have l6:=qw h6
 have cd:=yR s6 (by omega) h7
 clear h1 h2 h3 h4 h5 h6 h7
 refine qA (C:=C2) Tryd.func29 rfl _ Tryd.ntmps29 (Nat.le_of_ble_eq_true rfl) 2 rfl rfl ?_
 repeat' (first|refine qm ?_|(first|(apply qc Tryd.func30 rfl rfl;intro hIsFn;refine qS 0 hIsFn (c1) ?_)|(apply qc Tryd.func31 rfl rfl;intro hIsFn;refine qS 0 hIsFn (c2) ?_)|(apply qc Tryd.func31 rfl rfl;intro hIsFn;refine qS 0 hIsFn (c3) ?_)|(apply qc Tryd.func31 rfl rfl;intro hIsFn;refine qS 0 hIsFn (c4) ?_)|(apply qc Tryd.func31 rfl rfl;intro hIsFn;refine qS 0 hIsFn (c5) ?_)|(apply qc Tryd.func31 rfl rfl;intro hIsFn;refine qS 0 hIsFn (c6) ?_)|((refine jO (first:=[]) (cap:=[]) 0 [1] (jh Tryd.func30 rfl rfl) (cd) rfl (⟨rfl,yS rfl⟩) ?_);(repeat (first|exact qL 16 rfl|exact ⟨16,rfl⟩|refine qM (d:=16) rfl (nle rfl) ?_|(apply qT;exact nle rfl;refine ⟨?_,?_⟩;(first|exact fun h=>absurd h Bool.false_ne_true|(intro _;kernel_rfl)))));done))|((first|(apply qb;rfl;rfl;exact nle rfl)|(apply qa;rfl;rfl;exact nle rfl)|refine xsC ?_ ?_);all_goals (intro hc;have hp:=hc;try simp at hp;try (exfalso;omega)))|refine jl ?_ ?_)
set_option maxHeartbeats 4000000 in
theorem YL (s:qh) (q0:Rqt) (hs:s.length ≤ 1000000000) {v1:Int} {v2:qh} {v3:qh} {v4:qh} {v5:qh} {v6:qh} {v7:Int} {s1:qh} {s2:qh} {s3:qh} {s4:qh} {s5:qh} {s6:qh} {s7:qh} (h1:jd s = some (v1,s1)) (h2:qI s1 = some (v2,s2)) (h3:qI s2 = some (v3,s3)) (h4:qI s3 = some (v4,s4)) (h5:qI s4 = some (v5,s5)) (h6:qI s5 = some (v6,s6)) (h7:jd s6 = some (v7,s7)) (h8:jd s7 = none):xz C2.P 29 [.op 0 0 0,.op 1 0 0] [jW s,.own true 10 [q0.row]] zv (fun H' => ∃ x,H' = [x,.own true 10 [q0.row]]):=by
 have c1:=jT s s1 _ (by omega) h1
 have l1:=qR h1
 have c2:=ji s1 _ s2 (by omega) h2
 have l2:=qw h2
 have c3:=ji s2 _ s3 (by omega) h3
 have l3:=qw h3
 have c4:=ji s3 _ s4 (by omega) h4
 have l4:=qw h4
 have c5:=ji s4 _ s5 (by omega) h5
 have l5:=qw h5
 have c6:=ji s5 _ s6 (by omega) h6
 have l6:=qw h6
 have c7:=jT s6 s7 _ (by omega) h7
 have l7:=qR h7
 have cd:=yR s7 (by omega) h8
 clear h1 h2 h3 h4 h5 h6 h7 h8
 refine qA (C:=C2) Tryd.func29 rfl _ Tryd.ntmps29 (Nat.le_of_ble_eq_true rfl) 2 rfl rfl ?_
 repeat' (first|refine qm ?_|(first|(apply qc Tryd.func30 rfl rfl;intro hIsFn;refine qS 0 hIsFn (c1) ?_)|(apply qc Tryd.func31 rfl rfl;intro hIsFn;refine qS 0 hIsFn (c2) ?_)|(apply qc Tryd.func31 rfl rfl;intro hIsFn;refine qS 0 hIsFn (c3) ?_)|(apply qc Tryd.func31 rfl rfl;intro hIsFn;refine qS 0 hIsFn (c4) ?_)|(apply qc Tryd.func31 rfl rfl;intro hIsFn;refine qS 0 hIsFn (c5) ?_)|(apply qc Tryd.func31 rfl rfl;intro hIsFn;refine qS 0 hIsFn (c6) ?_)|(apply qc Tryd.func30 rfl rfl;intro hIsFn;refine qS 0 hIsFn (c7) ?_)|((refine jO (first:=[]) (cap:=[]) 0 [1] (jh Tryd.func30 rfl rfl) (cd) rfl (⟨rfl,yS rfl⟩) ?_);(repeat (first|exact qL 18 rfl|exact ⟨18,rfl⟩|refine qM (d:=18) rfl (nle rfl) ?_|(apply qT;exact nle rfl;refine ⟨?_,?_⟩;(first|exact fun h=>absurd h Bool.false_ne_true|(intro _;kernel_rfl)))));done))|((first|(apply qb;rfl;rfl;exact nle rfl)|(apply qa;rfl;rfl;exact nle rfl)|refine xsC ?_ ?_);all_goals (intro hc;have hp:=hc;try simp at hp;try (exfalso;omega)))|refine jl ?_ ?_)
set_option maxHeartbeats 4000000 in
theorem YM (s:qh) (q0:Rqt) (hs:s.length ≤ 1000000000) {v1:Int} {v2:qh} {v3:qh} {v4:qh} {v5:qh} {v6:qh} {v7:Int} {v8:Int} {s1:qh} {s2:qh} {s3:qh} {s4:qh} {s5:qh} {s6:qh} {s7:qh} {s8:qh} (h1:jd s = some (v1,s1)) (h2:qI s1 = some (v2,s2)) (h3:qI s2 = some (v3,s3)) (h4:qI s3 = some (v4,s4)) (h5:qI s4 = some (v5,s5)) (h6:qI s5 = some (v6,s6)) (h7:jd s6 = some (v7,s7)) (h8:jd s7 = some (v8,s8)) (h9:jd s8 = none):xz C2.P 29 [.op 0 0 0,.op 1 0 0] [jW s,.own true 10 [q0.row]] zv (fun H' => ∃ x,H' = [x,.own true 10 [q0.row]]):=by
 have c1:=jT s s1 _ (by omega) h1
 have l1:=qR h1
 have c2:=ji s1 _ s2 (by omega) h2
 have l2:=qw h2
 have c3:=ji s2 _ s3 (by omega) h3
 have l3:=qw h3
 have c4:=ji s3 _ s4 (by omega) h4
 have l4:=qw h4
 have c5:=ji s4 _ s5 (by omega) h5
 have l5:=qw h5
 have c6:=ji s5 _ s6 (by omega) h6
 have l6:=qw h6
 have c7:=jT s6 s7 _ (by omega) h7
 have l7:=qR h7
 have c8:=jT s7 s8 _ (by omega) h8
 have l8:=qR h8
 have cd:=yR s8 (by omega) h9
 clear h1 h2 h3 h4 h5 h6 h7 h8 h9
 refine qA (C:=C2) Tryd.func29 rfl _ Tryd.ntmps29 (Nat.le_of_ble_eq_true rfl) 2 rfl rfl ?_
 repeat' (first|refine qm ?_|(first|(apply qc Tryd.func30 rfl rfl;intro hIsFn;refine qS 0 hIsFn (c1) ?_)|(apply qc Tryd.func31 rfl rfl;intro hIsFn;refine qS 0 hIsFn (c2) ?_)|(apply qc Tryd.func31 rfl rfl;intro hIsFn;refine qS 0 hIsFn (c3) ?_)|(apply qc Tryd.func31 rfl rfl;intro hIsFn;refine qS 0 hIsFn (c4) ?_)|(apply qc Tryd.func31 rfl rfl;intro hIsFn;refine qS 0 hIsFn (c5) ?_)|(apply qc Tryd.func31 rfl rfl;intro hIsFn;refine qS 0 hIsFn (c6) ?_)|(apply qc Tryd.func30 rfl rfl;intro hIsFn;refine qS 0 hIsFn (c7) ?_)|(apply qc Tryd.func30 rfl rfl;intro hIsFn;refine qS 0 hIsFn (c8) ?_)|((refine jO (first:=[]) (cap:=[]) 0 [1] (jh Tryd.func30 rfl rfl) (cd) rfl (⟨rfl,yS rfl⟩) ?_);(repeat (first|exact qL 20 rfl|exact ⟨20,rfl⟩|refine qM (d:=20) rfl (nle rfl) ?_|(apply qT;exact nle rfl;refine ⟨?_,?_⟩;(first|exact fun h=>absurd h Bool.false_ne_true|(intro _;kernel_rfl)))));done))|((first|(apply qb;rfl;rfl;exact nle rfl)|(apply qa;rfl;rfl;exact nle rfl)|refine xsC ?_ ?_);all_goals (intro hc;have hp:=hc;try simp at hp;try (exfalso;omega)))|refine jl ?_ ?_)
set_option maxHeartbeats 4000000 in
theorem JZ (s:qh) (q0:Rqt) (hs:s.length ≤ 1000000000) {v1:Int} {v2:qh} {v3:qh} {v4:qh} {v5:qh} {v6:qh} {v7:Int} {v8:Int} {v9:Int} {s1:qh} {s2:qh} {s3:qh} {s4:qh} {s5:qh} {s6:qh} {s7:qh} {s8:qh} {s9:qh} (h1:jd s = some (v1,s1)) (h2:qI s1 = some (v2,s2)) (h3:qI s2 = some (v3,s3)) (h4:qI s3 = some (v4,s4)) (h5:qI s4 = some (v5,s5)) (h6:qI s5 = some (v6,s6)) (h7:jd s6 = some (v7,s7)) (h8:jd s7 = some (v8,s8)) (h9:jd s8 = some (v9,s9)) (h10:vq s9 = none):xz C2.P 29 [.op 0 0 0,.op 1 0 0] [jW s,.own true 10 [q0.row]] zv (fun H' => ∃ x,H' = [x,.own true 10 [q0.row]]):=by
 have c1:=jT s s1 _ (by omega) h1
 have l1:=qR h1
 have c2:=ji s1 _ s2 (by omega) h2
 have l2:=qw h2
 have c3:=ji s2 _ s3 (by omega) h3
 have l3:=qw h3
 have c4:=ji s3 _ s4 (by omega) h4
 have l4:=qw h4
 have c5:=ji s4 _ s5 (by omega) h5
 have l5:=qw h5
 have c6:=ji s5 _ s6 (by omega) h6
 have l6:=qw h6
 have c7:=jT s6 s7 _ (by omega) h7
 have l7:=qR h7
 have c8:=jT s7 s8 _ (by omega) h8
 have l8:=qR h8
 have c9:=jT s8 s9 _ (by omega) h9
 have l9:=qR h9
 have cd:=Qs s9 (by omega) h10
 clear h1 h2 h3 h4 h5 h6 h7 h8 h9 h10
 refine qA (C:=C2) Tryd.func29 rfl _ Tryd.ntmps29 (Nat.le_of_ble_eq_true rfl) 2 rfl rfl ?_
 repeat' (first|refine qm ?_|(first|(apply qc Tryd.func30 rfl rfl;intro hIsFn;refine qS 0 hIsFn (c1) ?_)|(apply qc Tryd.func31 rfl rfl;intro hIsFn;refine qS 0 hIsFn (c2) ?_)|(apply qc Tryd.func31 rfl rfl;intro hIsFn;refine qS 0 hIsFn (c3) ?_)|(apply qc Tryd.func31 rfl rfl;intro hIsFn;refine qS 0 hIsFn (c4) ?_)|(apply qc Tryd.func31 rfl rfl;intro hIsFn;refine qS 0 hIsFn (c5) ?_)|(apply qc Tryd.func31 rfl rfl;intro hIsFn;refine qS 0 hIsFn (c6) ?_)|(apply qc Tryd.func30 rfl rfl;intro hIsFn;refine qS 0 hIsFn (c7) ?_)|(apply qc Tryd.func30 rfl rfl;intro hIsFn;refine qS 0 hIsFn (c8) ?_)|(apply qc Tryd.func30 rfl rfl;intro hIsFn;refine qS 0 hIsFn (c9) ?_)|((refine jO (first:=[]) (cap:=[]) 0 [1] (jh Tryd.func32 rfl rfl) (cd) rfl (⟨rfl,yS rfl⟩) ?_);(repeat (first|exact qL 22 rfl|exact ⟨22,rfl⟩|refine qM (d:=22) rfl (nle rfl) ?_|(apply qT;exact nle rfl;refine ⟨?_,?_⟩;(first|exact fun h=>absurd h Bool.false_ne_true|(intro _;kernel_rfl)))));done))|((first|(apply qb;rfl;rfl;exact nle rfl)|(apply qa;rfl;rfl;exact nle rfl)|refine xsC ?_ ?_);all_goals (intro hc;have hp:=hc;try simp at hp;try (exfalso;omega)))|refine jl ?_ ?_)
theorem X6 (s:qh) (q0:Rqt) (hs:s.length ≤ 1000000000) (h:zD s = none):xz C2.P 29 [.op 0 0 0,.op 1 0 0] [jW s,.own true 10 [q0.row]] zv (fun H' => ∃ x,H' = [x,.own true 10 [q0.row]]):=by
 rcases X8 h with h1|⟨v1,s1,h1,h2|⟨v2,s2,h2,h3|⟨v3,s3,h3,h4|⟨v4,s4,h4,h5|⟨v5,s5,h5,h6|⟨v6,s6,h6,h7|⟨v7,s7,h7,h8|⟨v8,s8,h8,h9|⟨v9,s9,h9,h10⟩⟩⟩⟩⟩⟩⟩⟩⟩
 ·exact YE s q0 hs h1
 ·exact YF s q0 hs h1 h2
 ·exact YG s q0 hs h1 h2 h3
 ·exact YH s q0 hs h1 h2 h3 h4
 ·exact YI s q0 hs h1 h2 h3 h4 h5
 ·exact YJ s q0 hs h1 h2 h3 h4 h5 h6
 ·exact YK s q0 hs h1 h2 h3 h4 h5 h6 h7
 ·exact YL s q0 hs h1 h2 h3 h4 h5 h6 h7 h8
 ·exact YM s q0 hs h1 h2 h3 h4 h5 h6 h7 h8 h9
 ·exact JZ s q0 hs h1 h2 h3 h4 h5 h6 h7 h8 h9 h10
end Go.Proofs.YtahbbnfmbohmmaaDoor
