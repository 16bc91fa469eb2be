import Derived.Test.YtgcncinnlmjgdaaGreatDoorMz38
import Derived.Tactics
import Derived.Tactics2
import Derived.Defers
import Derived.Recover
import Derived.Laws.Pointers
set_option linter.unusedSimpArgs false
set_option linter.unnecessarySimpa false
set_option linter.unusedVariables false
set_option maxHeartbeats 4000000
set_option maxRecDepth 10000
namespace Go.Proofs.YtgcncinnlmjgdaaGreatDoor
open Go.Ab Go.RowKit
def K9 (p:Addr) (w w' : World) (x:Value):Prop:=w'.os = w.os ∧ w'.tape = w.tape ∧ w'.output = w.output ∧ w.heap.size ≤ w'.heap.size ∧ (∀ b,b < w.heap.size → b ≠ p.block → w'.heap[b]? = w.heap[b]?) ∧ w'.cell? p = some x
theorem qnq (w:World):(Instr.typeAssert (.iface 173 (.agg #[])) 20 173 true).run Tryz.prog w = .ok (.tuple #[.agg #[],.bool true]) w:=by
 simp [Instr.typeAssert,run_underlying Tryz.underlying173]
theorem qnp (w:World):(Instr.typeAssert .nilIface 20 173 true).run Tryz.prog w = .ok (.tuple #[.agg #[],.bool false]) w:=by
 simp [Instr.typeAssert,run_underlying Tryz.underlying173,Tryz.zeroValue173]
theorem qiu (p:Addr) (b:Bool) (w:World) (hp:p.block < w.heap.size) (hc:w.cell? p = some (.bool b)) (hz:w.frozen? p = false) :
  CallsD Tryz.prog 107 #[.pointer (some p)] (.panicking Qt) w fun e u' w'=>e = .returned (.tuple #[]) ∧ u' = .panicking [{ v := .iface 173 (.agg #[]),recovered:=true }] ∧ w' = (w.alloc (.cells #[] 173)).setCell p (.bool false):=by
 refine callsD_of_wpS Tryz.func107 rfl fun c₀ cs hu=>?_
 have hc2:(w.alloc (.cells #[] 173)).cell? p = some (.bool b):=by
  unfold World.cell? at hc ⊢;rw [Below.heap_alloc _ _ _ hp];exact hc
 have hz2:(w.alloc (.cells #[] 173)).frozen? p = false:=by
  unfold World.frozen? at hz ⊢;rw [Below.heap_alloc _ _ _ hp];exact hz
 apply wpS_seq;apply wpS_region;simp [wpOpsS,go_sem,recoverD,hu,Qt,Tryz.ntmps107,Exit.thenS,qnq,storeCells];apply wpS_seq;apply wpS_region;simp [wpOpsS,go_sem,Exit.thenS];refine wpS_cond (t:=true) (by simp [Act.eval,Array.replicate]) ?_;simp only [if_true];apply wpS_region;simp [wpOpsS,go_sem,hc2,hz2,bodyPostS,results,Tryz.results107]
theorem qfn (p:Addr) (w:World) :
  CallsD Tryz.prog 107 #[.pointer (some p)] .returning w fun e u' w'=>e = .returned (.tuple #[]) ∧ u' = .returning ∧ w' = w.alloc (.cells #[] 173):=by
 refine callsD_of_wpS Tryz.func107 rfl fun c₀ cs hu=>?_
 apply wpS_seq;apply wpS_region;simp [wpOpsS,go_sem,recoverD,hu,Qt,Tryz.ntmps107,Exit.thenS,qnp,storeCells];apply wpS_seq;apply wpS_region;simp [wpOpsS,go_sem,Exit.thenS];refine wpS_cond (t:=false) (by simp [Act.eval,Array.replicate]) ?_;simp only [Bool.false_eq_true,if_false];refine wpS_of_wp (wp_skip ?_);cases c₀;simp_all [bodyPostS,results,Tryz.results107]
end Go.Proofs.YtgcncinnlmjgdaaGreatDoor
namespace Go.Ab
open Go.RowKit
theorem OwnAt.world {F:Still} {ρ:Places} {w w' : World} {n:Nat} {hb:HB} (h:OwnAt F ρ w n hb) (hw : ∀ b c,hb.isOwn = true → ρ n = some (some (b,c)) → w'.heap[b]? = w.heap[b]?):OwnAt F ρ w' n hb:=by
 cases hb with
 | dead=>trivial
 | fz rows=>exact h
 | own ex k rows =>
   rcases h with h|⟨b,cap,c,e,h1,h2,h3⟩
   ·exact .inl h
   ·exact .inr ⟨b,cap,c,e,h1,by rw [hw b _ rfl h1];exact h2,h3⟩
 | mp l =>
   obtain ⟨b,o,kc,h1,h2,h3⟩:=h;exact ⟨b,o,kc,h1,by rw [hw b _ rfl h1];exact h2,h3⟩
theorem Hp.turned {B B' : Base} {A:Nat → Prop} {h h' : Nat → HB} {F:Still} {ρ:Places} {w w' : World} (hp:Hp B A h F ρ w) {n0 b0:Nat} {c0:Nat × Nat} (ho:(h n0).isOwn = true) (hρ:ρ n0 = some (some (b0,c0)))
  (hB:B'.w0 = B.w0 ∧ B'.F0 = B.F0 ∧ B'.O0 = B.O0) (hN : ∀ n c,B'.ρ0 n = some c → ρ n = some c)
  (hos:w'.os = w.os) (ht:w'.tape = w.tape) (hout:w'.output = w.output) (hsz:w.heap.size ≤ w'.heap.size) (hb : ∀ b,b < w.heap.size → b ≠ b0 → w'.heap[b]? = w.heap[b]?)
  (hh : ∀ n,h' n = .dead ∨ (h' n = h n ∧ n ≠ n0)):Hp B' (fun _=>True) h' F ρ w':=by
 obtain ⟨e1,e2,e3⟩:=hB;have hnew:=hp.new n0 b0 c0 ho hρ;have newB : ∀ b,B.new b → B'.new b:=fun b hn=>by unfold Base.new at hn ⊢;rw [e1,e3];exact hn
 refine { kept:=⟨by rw [hos,hp.kept.os,e1],by rw [ht,hp.kept.tape,e1],by rw [hout,hp.kept.output,e1],by rw [e1];exact Nat.le_trans hp.kept.size hsz,fun b hlt hO=>?_⟩,agree:=fun b o hF=>?_,grow:=by rw [e2];exact hp.grow,fresh:=fun b hF=>?_,names:=hN,dom:=fun _ _=>trivial,own:=fun n=>?_,new:=fun n b c hn hr=>?_,sep:=fun n m b c c' hne hn hm hr hr'=>?_ }
 ·rw [e1] at hlt ⊢;rw [e3] at hO
  rw [hb b (Nat.lt_of_lt_of_le hlt hp.kept.size) (by rintro rfl;rcases hnew.2 with h|h; · omega
                                                     ·exact hO h)]
  exact hp.kept.block b hlt hO
 ·have h0:=hp.agree b o hF;rw [hb b (Array.getElem?_eq_some_iff.1 h0).1 (by rintro rfl;rw [hnew.1] at hF;cases hF)];exact h0
 ·rcases hp.fresh b hF with h|h
  ·exact .inl (by rw [e2];exact h)
  ·exact .inr (newB b h)
 ·rcases hh n with h1|⟨h1,h2⟩
  ·rw [h1];trivial
  ·rw [h1];refine (hp.own n).world fun b c hio hr=>?_
   refine hb b (hp.blk hio hr) ?_;rintro rfl;exact hp.sep n n0 b c c0 h2 hio ho hr hρ
 ·rcases hh n with h1|⟨h1,h2⟩
  ·rw [h1] at hn;cases hn
  ·rw [h1] at hn;exact ⟨(hp.new n b c hn hr).1,newB b (hp.new n b c hn hr).2⟩
 ·rcases hh n with h1|⟨h1,h2⟩
  ·rw [h1] at hn;cases hn
  ·rcases hh m with g1|⟨g1,g2⟩
   ·rw [g1] at hm;cases hm
   ·rw [h1] at hn;rw [g1] at hm;exact hp.sep n m b c c' hne hn hm hr hr'
end Go.Ab
namespace Go.Proofs.YtgcncinnlmjgdaaGreatDoor
open Go.Ab Go.RowKit
noncomputable def wholeCode:Code:=match Tryz.f38.body with|some c=>c|none => .skip
@[reducible] def qc3 (s:qb) (f:FuncId) (k:Nat) (row0:List AV):St:=⟨[(0,.v (str s)),(1,.clo (.func f) [] [.op 0 0 0]),(4,.op 1 0 0)],[(0,.own true k [row0]),(1,.own true 1 [[.v (.bool false)]])],2⟩
noncomputable def wh0:Code:=match wholeCode with | .seq c _=>c|_ => .skip
noncomputable def wh1:Code:=match wholeCode with | .seq _ (.seq c _)=>c|_ => .skip
noncomputable def wh2:Code:=match wholeCode with | .seq _ (.seq _ c)=>c|_ => .skip
theorem qqk:wholeCode = .seq wh0 (.seq wh1 wh2):=rfl
def qqx (K:St → Prop):Exit → St → Prop
 | .normal,σ=>K σ
 | _,_=>False
def qqv (K:St → Prop):Exit → St → Prop
 | .normal,σ | .ret,σ=>K σ
 | _,_=>False
def qqy (ch:List PanicEntry) (K:List (Nat × AV) → List (Nat × HB) → Prop):Exit → St → Prop
 | .panic c,σ=>c = ch ∧ K σ.ts σ.hs
 | .normal,σ | .ret,σ => ∃ d,qm σ.ts d = xw
 | _,_=>False
def qkZ (k:Nat) (row1:List AV) (ts:List (Nat × AV)) (hs:List (Nat × HB)):Prop:=qm ts 4 = .op 1 0 0 ∧ qh hs 0 = .own true k [row1] ∧ qh hs 1 = .own true 1 [[.v (.bool false)]]
@[reducible] noncomputable def C2w (k:Nat) (row1:List AV):Cx := { C2 with die:=fun c ts hs=>c = Qt ∧ qkZ k row1 ts hs }
theorem qhw {L:List (Nat × Nat)} {nh:Nat} {σ:St} {k:Nat} {row row' : List AV} {ok ok' : Bool} (h0:qh σ.hs 0 = .own true k [row]) (h1:qh σ.hs 1 = .own true 1 [[.v (.bool ok)]]) (m0:Maps L nh 0 0) (m1:Maps L nh 1 1) (hr:row = row') (hok:ok = ok') (hp:AV.pure.pureL row' = true):yd L nh σ [(0,.own true k [row']),(1,.own true 1 [[.v (.bool ok')]])]:=by
 subst hr hok;exact ⟨⟨0,m0,by rw [h0];exact ⟨id,rfl,yL (jR hp) xg⟩⟩,⟨1,m1,by rw [h1];exact ⟨id,rfl,yL (jR rfl) xg⟩⟩,trivial⟩
section steps
variable {C' : Cx} {N:Nat} {all:Array Oper} {es:List Eff} {o:Oper} {os:List Oper} {K:List Eff → St → Prop} {ts:List (Nat × AV)} {hs:List (Nat × HB)} {nx:Nat} {gd:List Nat}
theorem qm6 {f:FuncId} {fn:Func} {x:Operand} {args:List Operand} {tys:Array TypeId} {d:Nat} {ty:TypeId} {pos:String} {af:Array Edge} {gg:Option (Nat × Bool)} {s:qb} {k:Nat} {row0 row1:List AV} {ys:List AV} {first cap:List AV} (hf:C'.P.funcs[f]? = some fn) (hb0:fn.body.isNone = false) (hn0:(fn.name == "runtime.NumGoroutine") = false)
  (hdo:vj C'.P f ys [jZ s,.own true k [row0]] Qt fun H' => ∃ x,H' = [x,.own true k [row1]]) (hp0:AV.pure.pureL row0 = true) (hp1:AV.pure.pureL row1 = true)
  (hdie:C'.die Qt [(4,qm ts 4)] ([(2,.dead),(0,.own true k [row1])] ++ [2,0,1].map fun n=>(n,qh hs n)))
  (k' : j9 C' N all (⟨gd ++ (qW x ++ args.flatMap qW ++ [4]),[2,0,1],some d,xw,[],[]⟩ :: es) ⟨(d,xw) :: ts,hs,nx⟩ os K)
  (hx:evA (qm ts) x = .clo (.func f) first cap:=by rfl)
  (h2:qh hs 2 = jZ s:=by rfl) (h0:qh hs 0 = .own true k [row0]:=by rfl)
  (hz:qX (j6 0 [2,0]) [2,0,1] (qh hs) (first ++ args.map (evA (qm ts)) ++ cap) ys:=by ((repeat' (first|exact jL|apply jo|exact jK rfl|exact ym|(apply qv;apply jB;exact .inr (of_decide_eq_true rfl))|(apply qv;apply yr;exact .inr (of_decide_eq_true rfl))|(apply qv;apply jC;exact .inr (of_decide_eq_true rfl))|apply j3|apply j4))<;>fail)) (hN:d < N:=by exact nle rfl) (hd4:d ∉ [4]:=by simp):jr C' N all gd es ⟨ts,hs,nx⟩ ⟨some d,.call ⟨.value x,args.toArray,tys⟩,ty,pos,af,gg⟩ os K:=by
 refine W9 (H:=[jZ s,.own true k [row0]]) (ch:=Qt) (f:=f) (xs:=first ++ args.map (evA (qm ts)) ++ cap) _ [2,0,1] [2,0] [4] rfl hN (xd f (qr hf hb0 hn0) x args tys first cap hx) rfl (by simp) (fun n hn=>by simp at hn;simp;omega) hz ?_ hdo ?_ hd4 k'
 ·have hg:Q0 (j6 0 [2,0]) (qh hs) [2,0] [jZ s,.own true k [row0]]:=jY (jZ s) (jY (.own true k [row0]) xn (jt (jR hp0)) h0 rfl) (jt (jR rfl)) h2 rfl;exact fun i n hb hi hj=>Jp hg i n hb hi hj
 ·rintro H' ⟨x,rfl⟩;refine ⟨[(2,.dead),(0,.own true k [row1])],rfl,?_,hdie⟩;intro i n hb hz;rcases i with _|_|i
  ·simp at hz;obtain ⟨rfl,rfl⟩:=hz;exact yG
  ·simp at hz;obtain ⟨rfl,rfl⟩:=hz;exact jt (jR hp1)
  ·simp at hz
end steps
section walks
attribute [local irreducible] Awp j9 jr ye Red qz Go.Ab.Fin qf Rz wz jF jU ResOk yA j1 xR qX
theorem qo0 (s:qb) (f:FuncId) (k:Nat) (row0:List AV) (hp:AV.pure.pureL row0 = true):Awp C1 18 wh0 (qqx fun σ=>Red C1 σ (qc3 s f k row0)) ⟨Qw 0 [.v (str s),.clo (.func f) [] [.op 0 0 0]],kW 0 [.own true k [row0]],1⟩:=by
 unfold wh0 wholeCode
 repeat' (first|refine qo ?_|fail|(refine xsS ?_ ?_;all_goals first|exact False.elim|intro hp hc)|refine xsA ?_ ?_)
 unfold qc3;refine (jH (C:=C1) [(1,1)] rfl ?_ (qhw rfl rfl (qp rfl) (qp rfl) rfl rfl hp));exact jz (qab (wm qx) (qp rfl))
theorem qo2 (s r:qb) {f:FuncId} {fn:Func} (hf:C.P.funcs[f]? = some fn) (hb0:fn.body.isNone = false) (hn0:(fn.name == "runtime.NumGoroutine") = false) (k:Nat) (row0 row1:List AV) (hp0:AV.pure.pureL row0 = true) (hp1:AV.pure.pureL row1 = true)
  (hdo:qf C2.P f [.op 0 0 0,.op 1 0 0] [jZ s,.own true k [row0]] (.tup []) [jZ r,.own true k [row1]]) :
  Awp C2 18 wh2 (qqv fun σ=>Red C2 σ ⟨[(4,.op 1 0 0)],[(0,.own true k [row1]),(1,.own true 1 [[.v (.bool (decide (r = [])))]])],2⟩) (qc3 s f k row0):=by
 unfold wh2 wholeCode qc3
 repeat' (first|refine qo ?_|(first|(refine YM (C:=C2) (first:=[]) (cap:=[.op 0 0 0]) [2,0] [] [(2,jZ r),(0,.own true k [row1])] 3 (.tup []) hf hdo KH (jY (jZ s) (jY (.own true k [row0]) xn (jt (jR hp0)) rfl rfl) (jt (jR rfl)) rfl rfl) (qY (jt (jR rfl)) (qY (jt (jR hp1)) yM)) ?_ rfl hb0 hn0))|(refine xsS ?_ ?_;all_goals first|exact False.elim|intro hp hc)|refine xsA ?_ ?_)
 show Red _ _ _;refine jH (C:=C2) [] rfl (wm qx) (qhw rfl rfl (qp rfl) (qp rfl) rfl rfl hp1)
theorem qgQ (s:qb) {f:FuncId} {fn:Func} (hf:C.P.funcs[f]? = some fn) (hb0:fn.body.isNone = false) (hn0:(fn.name == "runtime.NumGoroutine") = false) (k:Nat) (row0 row1:List AV) (hp0:AV.pure.pureL row0 = true) (hp1:AV.pure.pureL row1 = true)
  (hdo:vj C2.P f [.op 0 0 0,.op 1 0 0] [jZ s,.own true k [row0]] Qt fun H' => ∃ x,H' = [x,.own true k [row1]]) :
  Awp (C2w k row1) 18 wh2 (qqy Qt (qkZ k row1)) (qc3 s f k row0):=by
 unfold wh2 wholeCode qc3
 repeat' (first|refine qo ?_|(first|((refine qm6 (C':=C2w k row1) (first:=[]) (cap:=[.op 0 0 0]) hf hb0 hn0 hdo hp0 hp1 ⟨rfl,rfl,rfl,rfl⟩ ?_);(repeat (first|exact qE 12 rfl|exact ⟨12,rfl⟩|refine qG (d:=12) rfl (nle rfl) ?_|(apply qL;exact nle rfl;refine ⟨?_,?_⟩;(first|exact fun h=>absurd h Bool.false_ne_true|(intro _;kernel_rfl)))));done))|(refine xsS ?_ ?_;all_goals first|exact False.elim|intro hp hc)|refine xsA ?_ ?_)
end walks
def qef (p:Addr):Deferred := { target := .fn (.func 107) #[.pointer (some p)],args := #[] }
theorem qo1 {Q:Exit → Act → World → Prop} {a:Act} {w:World} {p:Addr} (hn:a.tmps.size = 18) (h4:a.tmps.getD 4 undef = .pointer (some p)) (h : ∀ v,Q .normal { tmps:=a.tmps.setIfInBounds 6 v,defers:=qef p :: a.defers } w):wh1.wp Tryz.prog Q a w:=by
 unfold wh1 wholeCode;have h4' : a.tmps[4]?.getD undef = .pointer (some p):=by rw [← h4,Array.getD_eq_getD_getElem?]
 apply wp_region;simp [wpOps,go_sem,hn];refine .inl (.inl ?_)
 have h4'' : a.tmps[4] = .pointer (some p):=by
  rw [Array.getElem?_eq_getElem (by omega)] at h4';exact h4'
 rw [h4''];exact h _
def qfZ (B:Base) (ρ:Places) (p:Addr):Base := { B with N:=18,ρ0:=fun n=>if n < 2 then ρ n else none,ds:=[qef p] }
theorem qoZ {B:Base} {s:qb} {f:FuncId} {k:Nat} {row0:List AV} {a:Act} {w:World} (hds : [] = B.ds) (g:Gs { B with N:=18 } (qc3 s f k row0) a w) :
  ∃ ρ p c,a.tmps.size = 18 ∧ a.tmps.getD 4 undef = .pointer (some p) ∧ p.off = 0 ∧ p.spot = none ∧ (∀ n c,B.ρ0 n = some c → ρ n = some c) ∧ ρ 1 = some (some (p.block,c)) ∧ ∀ v,Gs (qfZ B ρ p) (qc3 s f k row0) { tmps:=a.tmps.setIfInBounds 6 v,defers:=qef p :: a.defers } w:=by
 obtain ⟨g1,g2,F,ρ,hp,g4⟩:=g;obtain ⟨b,k',cap,e1,e2⟩:=(g4 4).op_inv;refine ⟨ρ,⟨b,0 * k' + 0,none⟩,(k',cap),g2,e2,by simp,rfl,fun n c h=>hp.names n c h,e1,fun v=>⟨?_,(by show Array.size _ = 18;rw [Array.size_setIfInBounds];exact g2),F,ρ,?_,fun i=>?_⟩⟩
 ·show qef _ :: a.defers = [qef _]
  have:a.defers = []:=by rw [hds];exact g1
  rw [this]
 ·exact { kept:=⟨hp.kept.os,hp.kept.tape,hp.kept.output,hp.kept.size,hp.kept.block⟩,agree:=hp.agree,grow:=hp.grow,fresh:=hp.fresh,names:=fun n c h=>by
            simp only [qfZ] at h;split at h
            ·exact h
            ·cases h
          dom:=hp.dom,own:=hp.own,new:=hp.new,sep:=hp.sep }
 ·show M F ρ ((a.tmps.setIfInBounds 6 v).getD i undef) _;by_cases hi:i = 6
  ·subst hi;exact .junk _ _
  ·have:(a.tmps.setIfInBounds 6 v).getD i undef = a.tmps.getD i undef:=by
    simp only [Array.getD_eq_getD_getElem?,Array.getElem?_setIfInBounds];rw [if_neg (Ne.symm hi)]
   rw [this];exact g4 i
theorem qln {F:Still} {ρ:Places} {w:World} {n b:Nat} {ok:Bool} {c:Nat × Nat} (h:OwnAt F ρ w n (.own true 1 [[.v (.bool ok)]])) (hρ:ρ n = some (some (b,c))):w.cell? ⟨b,0,none⟩ = some (.bool ok) ∧ w.frozen? ⟨b,0,none⟩ = false:=by
 rcases h with ⟨h1,h2⟩|⟨b',cap,cs,e,h1,h2,h3,h4,h5,h6⟩
 ·cases h2
 ·rw [hρ] at h1;simp only [Option.some.injEq,Prod.mk.injEq] at h1;obtain ⟨rfl,rfl⟩:=h1;have hcap:cap = 1:=h5 rfl;subst hcap;have hlt:0 < cs.size:=by omega
  have:=h6.2 0 0 _ _ cs[0] rfl rfl (by simp [hlt]);have hv:=this.v_inv.1;constructor
  ·unfold World.cell?;simp only [h2];simp [hlt,hv]
  ·unfold World.frozen?;simp only [h2];simp
theorem ql5 {B:Base} {ρ:Places} {p:Addr} {cc:Nat × Nat} {σ:St} {a:Act} {w:World} {k:Nat} {row1:List AV} {ok:Bool} (hds : [] = B.ds) (hoff:p.off = 0) (hspot:p.spot = none) (hρB : ∀ n c,B.ρ0 n = some c → ρ n = some c) (hρ0 : ∀ n,B.ρ0 n ≠ none → n < 1) (hρ1:ρ 1 = some (some (p.block,cc)))
  (g:Gs (qfZ B ρ p) σ a w) (t4:qm σ.ts 4 = .op 1 0 0) (h0:qh σ.hs 0 = .own true k [row1]) (h1:qh σ.hs 1 = .own true 1 [[.v (.bool ok)]]) :
  p.block < w.heap.size ∧ w.cell? p = some (.bool ok) ∧ w.frozen? p = false ∧ a.defers = [qef p] ∧ ∀ w' ok',K9 p w w' (.bool ok') → ∃ v,(results Tryz.f38 a.tmps).run Tryz.prog w' = .ok v w' ∧
   Ga { B with N:=1 } (fun _=>True) (one (.v (.bool ok'))) (fun n=>([.own true k [row1]]:List HB).getD n .dead) ⟨#[v],[]⟩ w':=by
 obtain ⟨g1,g2,F,ρ',hp,g4⟩:=g;have hp1:ρ' 1 = some (some (p.block,cc)):=hp.names 1 _ (by simpa [qfZ] using hρ1)
 have hpe:p = ⟨p.block,0,none⟩:=by
  obtain ⟨pb,po,ps⟩:=p;simp_all
 have hob:(qh σ.hs 1).isOwn = true:=by rw [h1];rfl
 have ho:=qln (h1 ▸ hp.own 1) hp1;refine ⟨hp.blk hob hp1,hpe ▸ ho.1,hpe ▸ ho.2,g1,?_⟩;rintro w' ok' ⟨c1,c2,c3,c4,c5,c6⟩;have hm4:=g4 4;rw [t4] at hm4;obtain ⟨b,k',cap,e1,e2⟩:=hm4.op_inv;have hb:b = p.block:=by rw [hp1] at e1;simp at e1;exact e1.1.symm
 have e2' : a.tmps.getD 4 undef = .pointer (some p):=by rw [e2,hpe,hb];simp
 refine ⟨.bool ok',?_,hds,rfl,F,ρ',?_,?_⟩
 ·have e3:a.tmps[4]?.getD undef = .pointer (some p):=by rw [← e2',Array.getD_eq_getD_getElem?]
  simp [results,Tryz.results38,go_sem,e3,c6]
 ·refine Hp.turned hp hob hp1 ⟨rfl,rfl,rfl⟩ (fun n c hn=>?_) c1 c2 c3 c4 c5 (fun n=>?_)
  ·have hlt:=hρ0 n (by rw [hn];simp);refine hp.names n c ?_;show (if n < 2 then ρ n else none) = _;rw [if_pos (by omega)];exact hρB n c hn
  ·match n with
   | 0=>exact .inr ⟨h0.symm,by omega⟩
   | n + 1=>exact .inl (by simp)
 ·intro i
  match i with
  | 0=>exact .v _ _ rfl
  | i + 1=>exact .junk _ _
theorem Kh {P:Program} {f:FuncId} {args:Array Value} {u:FrameMode} {w:World} {R R' : Ending → FrameMode → World → Prop} (h:CallsD P f args u w R) (hr : ∀ e u' w',R e u' w' → R' e u' w'):CallsD P f args u w R':=fun c cs hm=>by
 obtain ⟨e,u',w',fr,h1,h2⟩:=h c cs hm;exact ⟨e,u',w',fr,hr _ _ _ h1,h2⟩
theorem Ki {p:Addr} {w:World} {ok:Bool} (hp:p.block < w.heap.size) (hc:w.cell? p = some (.bool ok)) (c:Obj):K9 p w (w.alloc c) (.bool ok):=by
 refine ⟨rfl,rfl,rfl,by simp,fun b hb _=>Below.heap_alloc _ _ _ hb,?_⟩;unfold World.cell? at hc ⊢;rw [Below.heap_alloc _ _ _ hp];exact hc
theorem qfo {p:Addr} {w:World} {ok:Bool} (hp:p.block < w.heap.size) (hc:w.cell? p = some (.bool ok)) (c:Obj):K9 p w ((w.alloc c).setCell p (.bool false)) (.bool false):=by
 refine ⟨rfl,rfl,rfl,by simp,fun b hb hne=>?_,?_⟩
 ·rw [Below.heap_setCell _ _ _ _ hne];exact Below.heap_alloc _ _ _ hb
 ·refine World.cell?_setCell_same' _ _ _ ?_;have:=(Ki hp hc c).2.2.2.2.2;rw [this];rfl
theorem qfX {R:Ending → World → Prop} {tmps:Array Value} {p:Addr} {w:World} {ok:Bool} (hp:p.block < w.heap.size) (hc:w.cell? p = some (.bool ok)) (h : ∀ w',K9 p w w' (.bool ok) → ∃ v,(results Tryz.f38 tmps).run Tryz.prog w' = .ok v w' ∧ R (.returned v) w') :
  Leaves Tryz.prog Tryz.f38 tmps R [qef p] .returning w:=by
 refine leaves_cons (f:=107) (args := #[.pointer (some p)]) (by simp) (by simp [invoke,go_sem]) ?_;refine Kh (qfn p w) ?_;rintro e u' w' ⟨rfl,rfl,rfl⟩;exact h _ (Ki hp hc _)
theorem qiV {R:Ending → World → Prop} {tmps:Array Value} {p:Addr} {w:World} {ok:Bool} (hp:p.block < w.heap.size) (hc:w.cell? p = some (.bool ok)) (hz:w.frozen? p = false) (h : ∀ w',K9 p w w' (.bool false) → ∃ v,(results Tryz.f38 tmps).run Tryz.prog w' = .ok v w' ∧ R (.returned v) w') :
  Leaves Tryz.prog Tryz.f38 tmps R [qef p] (.panicking Qt) w:=by
 refine leaves_cons (f:=107) (args := #[.pointer (some p)]) (by simp) (by simp [invoke,go_sem]) ?_;refine Kh (qiu p ok w hp hc hz) ?_;rintro e u' w' ⟨rfl,rfl,rfl⟩;exact h _ (qfo hp hc _)
theorem qhW {s:qb} {f:FuncId} {k:Nat} {row0:List AV} (hp0:AV.pure.pureL row0 = true) {B:Base} {vs:List Value} {w:World} {R:Ending → World → Prop} (hvs:vs.length = 2) (hBN:B.N = vs.length)
  (g:Ga B (fun n=>n < 1) (fun i => [AV.v (str s),.clo (.func f) [] [.op 0 0 0]].getD i .junk) (fun n=>([.own true k [row0]]:List HB).getD n .dead) ⟨vs.toArray,[]⟩ w)
  (h : ∀ (ρ:Places) (p:Addr) cc (a:Act) (w:World),[] = B.ds → p.off = 0 → p.spot = none → (∀ n c,B.ρ0 n = some c → ρ n = some c) → (∀ n,B.ρ0 n ≠ none → n < 1) → ρ 1 = some (some (p.block,cc)) → qpb C2 18 (qfZ B ρ p) → Gs (qfZ B ρ p) (qc3 s f k row0) a w →
   wh2.wp Tryz.prog (bodyPostD Tryz.prog Tryz.f38 R) a w):Calls Tryz.prog 38 vs.toArray w R:=by
 obtain ⟨hρ0,hds,g'⟩:=XL (args:=[AV.v (str s),.clo (.func f) [] [.op 0 0 0]]) (H:=[.own true k [row0]]) (N:=18) (Tryz.ntmps38) (by simp) hvs hBN g;refine calls_of_wp_defers Tryz.func38 rfl ?_;show wholeCode.wp _ _ _ _;rw [qqk];refine wp_seq (wp_mono (qo0 s f k row0 hp0 { B with N:=18 } _ w ⟨rfl,hρ0⟩ g') ?_);rintro e a1 w1 ⟨σ1,q1,g1⟩
 cases e with
 | normal =>
   have g2:=q1 { B with N:=18 } _ _ hρ0 g1;obtain ⟨ρ,p,cc,m1,m2,m3,m4,m5,m6,m7⟩:=qoZ hds g2;refine wp_seq (qo1 m1 m2 fun v=>?_);refine h ρ p cc _ _ hds m3 m4 m5 hρ0 m6 ⟨rfl,fun n hn=>?_⟩ (m7 v);simp only [qfZ] at hn;split at hn
   ·assumption
   ·exact absurd rfl hn
 | _=>exact q1.elim
theorem qg3 (s r:qb) {f:FuncId} {fn:Func} (hf:C.P.funcs[f]? = some fn) (hb0:fn.body.isNone = false) (hn0:(fn.name == "runtime.NumGoroutine") = false) (k:Nat) (row0 row1:List AV) (hp0:AV.pure.pureL row0 = true) (hp1:AV.pure.pureL row1 = true)
  (hdo:qf C2.P f [.op 0 0 0,.op 1 0 0] [jZ s,.own true k [row0]] (.tup []) [jZ r,.own true k [row1]]) :
  qf C1.P 38 [.v (str s),.clo (.func f) [] [.op 0 0 0]] [.own true k [row0]] (.v (.bool (decide (r = [])))) [.own true k [row1]]:=by
 intro B vs w hvs hBN g;refine qhW hp0 hvs hBN g fun ρ p cc a w h1 h2 h3 h4 h5 h6 hfit g2=>?_
 refine wp_mono (qo2 s r hf hb0 hn0 k row0 row1 hp0 hp1 hdo _ _ _ hfit g2) ?_;rintro e a' w' ⟨σ',q,g'⟩
 have hend : ∀ (q:Red C2 σ' ⟨[(4,.op 1 0 0)],[(0,.own true k [row1]),(1,.own true 1 [[.v (.bool (decide (r = [])))]])],2⟩) (R:Ending → World → Prop),(∀ v w'',Ga { B with N:=1 } (fun _=>True) (one (.v (.bool (decide (r = []))))) (fun n=>([.own true k [row1]]:List HB).getD n .dead) ⟨#[v],[]⟩ w'' → R (.returned v) w'') →
   Leaves Tryz.prog Tryz.f38 a'.tmps R a'.defers .returning w':=by
  intro q R hR;obtain ⟨k1,k2,k3,k4,k5⟩:=ql5 h1 h2 h3 h4 h5 h6 (q _ _ _ hfit.2 g') rfl rfl rfl;rw [k4];refine qfX k1 k2 fun w'' hcg=>?_
  obtain ⟨v,v1,v2⟩:=k5 w'' _ hcg;exact ⟨v,v1,hR _ _ v2⟩
 cases e with
 | normal=>exact hend q _ fun v w'' hg=>⟨v,rfl,hg⟩
 | ret=>exact hend q _ fun v w'' hg=>⟨v,rfl,hg⟩
 | _=>exact q.elim
theorem Kf (s:qb) {f:FuncId} {fn:Func} (hf:C.P.funcs[f]? = some fn) (hb0:fn.body.isNone = false) (hn0:(fn.name == "runtime.NumGoroutine") = false) (k:Nat) (row0 row1:List AV) (hp0:AV.pure.pureL row0 = true) (hp1:AV.pure.pureL row1 = true)
  (hdo:vj C2.P f [.op 0 0 0,.op 1 0 0] [jZ s,.own true k [row0]] Qt fun H' => ∃ x,H' = [x,.own true k [row1]]) :
  qf C1.P 38 [.v (str s),.clo (.func f) [] [.op 0 0 0]] [.own true k [row0]] (.v (.bool false)) [.own true k [row1]]:=by
 intro B vs w hvs hBN g;refine qhW hp0 hvs hBN g fun ρ p cc a w h1 h2 h3 h4 h5 h6 hfit g2=>?_
 refine wp_mono (qgQ s hf hb0 hn0 k row0 row1 hp0 hp1 hdo _ _ _ hfit g2) ?_;rintro e a' w' ⟨σ',q,g'⟩
 cases e with
 | normal=>obtain ⟨d,hd⟩:=q;exact (KV hd g').elim
 | ret=>obtain ⟨d,hd⟩:=q;exact (KV hd g').elim
 | panic c =>
   obtain ⟨rfl,q1,q2,q3⟩:=q;obtain ⟨k1,k2,k3,k4,k5⟩:=ql5 h1 h2 h3 h4 h5 h6 g' q1 q2 q3;show Leaves _ _ _ _ _ _ _;rw [k4];refine qiV k1 k2 k3 fun w'' hcg=>?_
   obtain ⟨v,v1,v2⟩:=k5 w'' _ hcg;exact ⟨v,v1,v,rfl,v2⟩
 | _=>exact q.elim
theorem qmS {L:List (Nat × Nat)} {nh:Nat} {σ:St} {q q' n n' k:Nat} {s s' : qb} {row row' : List AV} {rest:List (Nat × HB)} (hq:qh σ.hs q = jZ s) (hn:qh σ.hs n = .own true k [row]) (h1:Maps L nh q q') (h2:Maps L nh n n') (hs:s = s') (hr:row = row') (hp:AV.pure.pureL row' = true) (hl:yd L nh σ rest):yd L nh σ ((q',jZ s') :: (n',.own true k [row']) :: rest):=by
 subst hs hr;exact Xf hq h1 rfl ⟨⟨n,h2,by rw [hn];exact ⟨id,rfl,yL (jR hp) xg⟩⟩,hl⟩
theorem xE {H:List (Nat × HB)} {k:Nat} {row:List AV} (h:qh H 1 = .own true k [row]) : ∃ H',(∃ x,H' = [x,.own true k [row]]) ∧ ∀ n,H'.getD n .dead = qh H n ∨ H'.getD n .dead = .dead :=
 ⟨[.dead,.own true k [row]],⟨_,rfl⟩,fun n=>match n with|0 => .inr rfl|1 => .inl h.symm|n + 2 => .inr (by simp)⟩
theorem qbd {s r:qb} {l:List Chg} (h:Qu s = some (l,r)):r.length ≤ s.length:=by
 rw [(rd_chgs.of _ _ _ h).1,List.length_append];omega
theorem qly {s r:qb} {x:_} (h:qai s = some (x,r)) : ∃ s1 s2 s3 s4 s5 s6 s7 s8 s9,je s = some (x.kind,s1) ∧ jm s1 = some (x.who,s2) ∧ jm s2 = some (x.folder,s3) ∧ jm s3 = some (x.name,s4) ∧ jm s4 = some (x.key,s5) ∧ jm s5 = some (x.text,s6) ∧ je s6 = some (x.number,s7) ∧ je s7 = some (x.offset,s8) ∧ je s8 = some (x.base,s9) ∧ Qu s9 = some (x.chs,r):=by
 unfold qai at h
 repeat' (split at h)
 all_goals first
  | (cases h;done)
  | skip
 rename_i h1 _ _ _ h2 _ _ _ h3 _ _ _ h4 _ _ _ h5 _ _ _ h6 _ _ _ h7 _ _ _ h8 _ _ _ h9 _ _ _ h10;injection h with h;injection h with e1 e2;subst e1 e2;exact ⟨_,_,_,_,_,_,_,_,_,h1,h2,h3,h4,h5,h6,h7,h8,h9,h10⟩
theorem qji {s:qb} (h:qai s = none):je s = none ∨ ∃ a s1,je s = some (a,s1) ∧ (jm s1 = none ∨ ∃ b s2,jm s1 = some (b,s2) ∧ (jm s2 = none ∨ ∃ c s3,jm s2 = some (c,s3) ∧ (jm s3 = none ∨ ∃ d s4,jm s3 = some (d,s4) ∧ (jm s4 = none ∨ ∃ e s5,jm s4 = some (e,s5) ∧ (jm s5 = none ∨ ∃ f s6,jm s5 = some (f,s6) ∧ (je s6 = none ∨ ∃ g s7,je s6 = some (g,s7) ∧ (je s7 = none ∨ ∃ h s8,je s7 = some (h,s8) ∧ (je s8 = none ∨ ∃ i s9,je s8 = some (i,s9) ∧ (Qu s9 = none))))))))):=by
 unfold qai at h
 cases h1:je s with
 | none=>exact .inl rfl
 | some z =>
   obtain ⟨v1,s1⟩:=z;rw [h1] at h;simp only at h;refine .inr ⟨v1,s1,rfl,?_⟩
   cases h2:jm s1 with
   | none=>exact .inl rfl
   | some z =>
     obtain ⟨v2,s2⟩:=z;rw [h2] at h;simp only at h;refine .inr ⟨v2,s2,rfl,?_⟩
     cases h3:jm s2 with
     | none=>exact .inl rfl
     | some z =>
       obtain ⟨v3,s3⟩:=z;rw [h3] at h;simp only at h;refine .inr ⟨v3,s3,rfl,?_⟩
       cases h4:jm s3 with
       | none=>exact .inl rfl
       | some z =>
         obtain ⟨v4,s4⟩:=z;rw [h4] at h;simp only at h;refine .inr ⟨v4,s4,rfl,?_⟩
         cases h5:jm s4 with
         | none=>exact .inl rfl
         | some z =>
           obtain ⟨v5,s5⟩:=z;rw [h5] at h;simp only at h;refine .inr ⟨v5,s5,rfl,?_⟩
           cases h6:jm s5 with
           | none=>exact .inl rfl
           | some z =>
             obtain ⟨v6,s6⟩:=z;rw [h6] at h;simp only at h;refine .inr ⟨v6,s6,rfl,?_⟩
             cases h7:je s6 with
             | none=>exact .inl rfl
             | some z =>
               obtain ⟨v7,s7⟩:=z;rw [h7] at h;simp only at h;refine .inr ⟨v7,s7,rfl,?_⟩
               cases h8:je s7 with
               | none=>exact .inl rfl
               | some z =>
                 obtain ⟨v8,s8⟩:=z;rw [h8] at h;simp only at h;refine .inr ⟨v8,s8,rfl,?_⟩
                 cases h9:je s8 with
                 | none=>exact .inl rfl
                 | some z =>
                   obtain ⟨v9,s9⟩:=z;rw [h9] at h;simp only at h;refine .inr ⟨v9,s9,rfl,?_⟩
                   cases h10:Qu s9 with
                   | none=>rfl
                   | some z =>
                     rw [h10] at h;cases h
attribute [local irreducible] Awp j9 jr ye Red qz Go.Ab.Fin qf Rz wz jF jU ResOk yA j1 xR qX
theorem qpE (s r:qb) (q q0:Rqt) (hs:s.length ≤ 1000000000) (h:qai s = some (q,r)):qf C2.P 54 [.op 0 0 0,.op 1 0 0] [jZ s,.own true 10 [q0.row]] (.tup []) [jZ r,.own true 10 [q.row]]:=by
 obtain ⟨s1,s2,s3,s4,s5,s6,s7,s8,s9,h1,h2,h3,h4,h5,h6,h7,h8,h9,h10⟩:=qly h;clear h;obtain ⟨v1,v2,v3,v4,v5,v6,v7,v8,v9,v10⟩:=q;dsimp only at *;have c1:=yc s s1 _ (by omega) h1;have l1:=qw h1;have c2:=jS s1 _ s2 (by omega) h2;have l2:=qC h2;have c3:=jS s2 _ s3 (by omega) h3;have l3:=qC h3;have c4:=jS s3 _ s4 (by omega) h4;have l4:=qC h4;have c5:=jS s4 _ s5 (by omega) h5;have l5:=qC h5;have c6:=jS s5 _ s6 (by omega) h6;have l6:=qC h6;have c7:=yc s6 s7 _ (by omega) h7;have l7:=qw h7;have c8:=yc s7 s8 _ (by omega) h8;have l8:=qw h8;have c9:=yc s8 s9 _ (by omega) h9;have l9:=qw h9;have c10:=qbD s9 r _ (by omega) h10;have l10:=qbd h10;clear h1 h2 h3 h4 h5 h6 h7 h8 h9 h10;unfold Rqt.row;refine qJ (C:=C2) 2 ?_
 repeat' (first|(first|(refine qT 0 qi (c1) ?_)|(refine qT 0 qi (c2) ?_)|(refine qT 0 qi (c3) ?_)|(refine qT 0 qi (c4) ?_)|(refine qT 0 qi (c5) ?_)|(refine qT 0 qi (c6) ?_)|(refine qT 0 qi (c7) ?_)|(refine qT 0 qi (c8) ?_)|(refine qT 0 qi (c9) ?_)|(refine qT 0 qi (c10) ?_)|(apply qa;apply (xH (cs:=[.v (.int .i64 v1),.v (str v2),.v (str v3),.v (str v4),.v (str v5),.v (str v6),.v (.int .i64 v7),.v (.int .i64 v8),.v (.int .i64 v9),ya v10]));rfl;rfl;rfl;kernel_rfl;exact nle rfl))|refine qo ?_|(refine xsS ?_ ?_;all_goals first|exact False.elim|intro hp hc)|refine xsA ?_ ?_)
 all_goals ((exact yp (rs:=[]) [] 2 qqg))
theorem qgl (s:qb) (q0:Rqt) (hs:s.length ≤ 1000000000) (h1:je s = none):vj C2.P 54 [.op 0 0 0,.op 1 0 0] [jZ s,.own true 10 [q0.row]] Qt (fun H' => ∃ x,H' = [x,.own true 10 [q0.row]]):=by
 have cd:=xD s (by omega) h1;clear h1;refine qu (C:=C2) Tryz.func54 rfl _ Tryz.ntmps54 (Nat.le_of_ble_eq_true rfl) 2 rfl rfl ?_
 repeat' (first|refine qo ?_|(first|((refine j7 (first:=[]) (cap:=[]) 0 [1] (qr Tryz.func40 rfl rfl) (cd) rfl (⟨rfl,xE rfl⟩) ?_);(repeat (first|exact qE 4 rfl|exact ⟨4,rfl⟩|refine qG (d:=4) rfl (nle rfl) ?_|(apply qL;exact nle rfl;refine ⟨?_,?_⟩;(first|exact fun h=>absurd h Bool.false_ne_true|(intro _;kernel_rfl)))));done))|(refine xsS ?_ ?_;all_goals first|exact False.elim|intro hp hc)|refine xsA ?_ ?_)
theorem qgm (s:qb) (q0:Rqt) (hs:s.length ≤ 1000000000) {v1:Int} {s1:qb} (h1:je s = some (v1,s1)) (h2:jm s1 = none):vj C2.P 54 [.op 0 0 0,.op 1 0 0] [jZ s,.own true 10 [q0.row]] Qt (fun H' => ∃ x,H' = [x,.own true 10 [q0.row]]):=by
 have c1:=yc s s1 _ (by omega) h1;have l1:=qw h1;have cd:=xZ s1 (by omega) h2;clear h1 h2;refine qu (C:=C2) Tryz.func54 rfl _ Tryz.ntmps54 (Nat.le_of_ble_eq_true rfl) 2 rfl rfl ?_
 repeat' (first|refine qo ?_|(first|(refine qT 0 qi (c1) ?_)|((refine j7 (first:=[]) (cap:=[]) 0 [1] (qr Tryz.func44 rfl rfl) (cd) rfl (⟨rfl,xE rfl⟩) ?_);(repeat (first|exact qE 6 rfl|exact ⟨6,rfl⟩|refine qG (d:=6) rfl (nle rfl) ?_|(apply qL;exact nle rfl;refine ⟨?_,?_⟩;(first|exact fun h=>absurd h Bool.false_ne_true|(intro _;kernel_rfl)))));done))|(refine xsS ?_ ?_;all_goals first|exact False.elim|intro hp hc)|refine xsA ?_ ?_)
theorem qgn (s:qb) (q0:Rqt) (hs:s.length ≤ 1000000000) {v1:Int} {v2:qb} {s1:qb} {s2:qb} (h1:je s = some (v1,s1)) (h2:jm s1 = some (v2,s2)) (h3:jm s2 = none):vj C2.P 54 [.op 0 0 0,.op 1 0 0] [jZ s,.own true 10 [q0.row]] Qt (fun H' => ∃ x,H' = [x,.own true 10 [q0.row]]):=by
 have c1:=yc s s1 _ (by omega) h1;have l1:=qw h1;have c2:=jS s1 _ s2 (by omega) h2;have l2:=qC h2;have cd:=xZ s2 (by omega) h3;clear h1 h2 h3;refine qu (C:=C2) Tryz.func54 rfl _ Tryz.ntmps54 (Nat.le_of_ble_eq_true rfl) 2 rfl rfl ?_
 repeat' (first|refine qo ?_|(first|(refine qT 0 qi (c1) ?_)|(refine qT 0 qi (c2) ?_)|((refine j7 (first:=[]) (cap:=[]) 0 [1] (qr Tryz.func44 rfl rfl) (cd) rfl (⟨rfl,xE rfl⟩) ?_);(repeat (first|exact qE 8 rfl|exact ⟨8,rfl⟩|refine qG (d:=8) rfl (nle rfl) ?_|(apply qL;exact nle rfl;refine ⟨?_,?_⟩;(first|exact fun h=>absurd h Bool.false_ne_true|(intro _;kernel_rfl)))));done))|(refine xsS ?_ ?_;all_goals first|exact False.elim|intro hp hc)|refine xsA ?_ ?_)
theorem qgo (s:qb) (q0:Rqt) (hs:s.length ≤ 1000000000) {v1:Int} {v2:qb} {v3:qb} {s1:qb} {s2:qb} {s3:qb} (h1:je s = some (v1,s1)) (h2:jm s1 = some (v2,s2)) (h3:jm s2 = some (v3,s3)) (h4:jm s3 = none):vj C2.P 54 [.op 0 0 0,.op 1 0 0] [jZ s,.own true 10 [q0.row]] Qt (fun H' => ∃ x,H' = [x,.own true 10 [q0.row]]):=by
 have c1:=yc s s1 _ (by omega) h1;have l1:=qw h1;have c2:=jS s1 _ s2 (by omega) h2;have l2:=qC h2;have c3:=jS s2 _ s3 (by omega) h3;have l3:=qC h3;have cd:=xZ s3 (by omega) h4;clear h1 h2 h3 h4;refine qu (C:=C2) Tryz.func54 rfl _ Tryz.ntmps54 (Nat.le_of_ble_eq_true rfl) 2 rfl rfl ?_
 repeat' (first|refine qo ?_|(first|(refine qT 0 qi (c1) ?_)|(refine qT 0 qi (c2) ?_)|(refine qT 0 qi (c3) ?_)|((refine j7 (first:=[]) (cap:=[]) 0 [1] (qr Tryz.func44 rfl rfl) (cd) rfl (⟨rfl,xE rfl⟩) ?_);(repeat (first|exact qE 10 rfl|exact ⟨10,rfl⟩|refine qG (d:=10) rfl (nle rfl) ?_|(apply qL;exact nle rfl;refine ⟨?_,?_⟩;(first|exact fun h=>absurd h Bool.false_ne_true|(intro _;kernel_rfl)))));done))|(refine xsS ?_ ?_;all_goals first|exact False.elim|intro hp hc)|refine xsA ?_ ?_)
theorem qgp (s:qb) (q0:Rqt) (hs:s.length ≤ 1000000000) {v1:Int} {v2:qb} {v3:qb} {v4:qb} {s1:qb} {s2:qb} {s3:qb} {s4:qb} (h1:je s = some (v1,s1)) (h2:jm s1 = some (v2,s2)) (h3:jm s2 = some (v3,s3)) (h4:jm s3 = some (v4,s4)) (h5:jm s4 = none):vj C2.P 54 [.op 0 0 0,.op 1 0 0] [jZ s,.own true 10 [q0.row]] Qt (fun H' => ∃ x,H' = [x,.own true 10 [q0.row]]):=by
 have c1:=yc s s1 _ (by omega) h1;have l1:=qw h1;have c2:=jS s1 _ s2 (by omega) h2;have l2:=qC h2;have c3:=jS s2 _ s3 (by omega) h3;have l3:=qC h3;have c4:=jS s3 _ s4 (by omega) h4;have l4:=qC h4;have cd:=xZ s4 (by omega) h5;clear h1 h2 h3 h4 h5;refine qu (C:=C2) Tryz.func54 rfl _ Tryz.ntmps54 (Nat.le_of_ble_eq_true rfl) 2 rfl rfl ?_
 repeat' (first|refine qo ?_|(first|(refine qT 0 qi (c1) ?_)|(refine qT 0 qi (c2) ?_)|(refine qT 0 qi (c3) ?_)|(refine qT 0 qi (c4) ?_)|((refine j7 (first:=[]) (cap:=[]) 0 [1] (qr Tryz.func44 rfl rfl) (cd) rfl (⟨rfl,xE rfl⟩) ?_);(repeat (first|exact qE 12 rfl|exact ⟨12,rfl⟩|refine qG (d:=12) rfl (nle rfl) ?_|(apply qL;exact nle rfl;refine ⟨?_,?_⟩;(first|exact fun h=>absurd h Bool.false_ne_true|(intro _;kernel_rfl)))));done))|(refine xsS ?_ ?_;all_goals first|exact False.elim|intro hp hc)|refine xsA ?_ ?_)
theorem qgq (s:qb) (q0:Rqt) (hs:s.length ≤ 1000000000) {v1:Int} {v2:qb} {v3:qb} {v4:qb} {v5:qb} {s1:qb} {s2:qb} {s3:qb} {s4:qb} {s5:qb} (h1:je s = some (v1,s1)) (h2:jm s1 = some (v2,s2)) (h3:jm s2 = some (v3,s3)) (h4:jm s3 = some (v4,s4)) (h5:jm s4 = some (v5,s5)) (h6:jm s5 = none):vj C2.P 54 [.op 0 0 0,.op 1 0 0] [jZ s,.own true 10 [q0.row]] Qt (fun H' => ∃ x,H' = [x,.own true 10 [q0.row]]):=by
 have c1:=yc s s1 _ (by omega) h1;have l1:=qw h1;have c2:=jS s1 _ s2 (by omega) h2;have l2:=qC h2;have c3:=jS s2 _ s3 (by omega) h3;have l3:=qC h3;have c4:=jS s3 _ s4 (by omega) h4;have l4:=qC h4;have c5:=jS s4 _ s5 (by omega) h5;have l5:=qC h5;have cd:=xZ s5 (by omega) h6;clear h1 h2 h3 h4 h5 h6;refine qu (C:=C2) Tryz.func54 rfl _ Tryz.ntmps54 (Nat.le_of_ble_eq_true rfl) 2 rfl rfl ?_
 repeat' (first|refine qo ?_|(first|(refine qT 0 qi (c1) ?_)|(refine qT 0 qi (c2) ?_)|(refine qT 0 qi (c3) ?_)|(refine qT 0 qi (c4) ?_)|(refine qT 0 qi (c5) ?_)|((refine j7 (first:=[]) (cap:=[]) 0 [1] (qr Tryz.func44 rfl rfl) (cd) rfl (⟨rfl,xE rfl⟩) ?_);(repeat (first|exact qE 14 rfl|exact ⟨14,rfl⟩|refine qG (d:=14) rfl (nle rfl) ?_|(apply qL;exact nle rfl;refine ⟨?_,?_⟩;(first|exact fun h=>absurd h Bool.false_ne_true|(intro _;kernel_rfl)))));done))|(refine xsS ?_ ?_;all_goals first|exact False.elim|intro hp hc)|refine xsA ?_ ?_)
theorem qgr (s:qb) (q0:Rqt) (hs:s.length ≤ 1000000000) {v1:Int} {v2:qb} {v3:qb} {v4:qb} {v5:qb} {v6:qb} {s1:qb} {s2:qb} {s3:qb} {s4:qb} {s5:qb} {s6:qb} (h1:je s = some (v1,s1)) (h2:jm s1 = some (v2,s2)) (h3:jm s2 = some (v3,s3)) (h4:jm s3 = some (v4,s4)) (h5:jm s4 = some (v5,s5)) (h6:jm s5 = some (v6,s6)) (h7:je s6 = none):vj C2.P 54 [.op 0 0 0,.op 1 0 0] [jZ s,.own true 10 [q0.row]] Qt (fun H' => ∃ x,H' = [x,.own true 10 [q0.row]]):=by
 have c1:=yc s s1 _ (by omega) h1;have l1:=qw h1;have c2:=jS s1 _ s2 (by omega) h2;have l2:=qC h2;have c3:=jS s2 _ s3 (by omega) h3;have l3:=qC h3;have c4:=jS s3 _ s4 (by omega) h4;have l4:=qC h4;have c5:=jS s4 _ s5 (by omega) h5;have l5:=qC h5;have c6:=jS s5 _ s6 (by omega) h6;have l6:=qC h6;have cd:=xD s6 (by omega) h7;clear h1 h2 h3 h4 h5 h6 h7;refine qu (C:=C2) Tryz.func54 rfl _ Tryz.ntmps54 (Nat.le_of_ble_eq_true rfl) 2 rfl rfl ?_
 repeat' (first|refine qo ?_|(first|(refine qT 0 qi (c1) ?_)|(refine qT 0 qi (c2) ?_)|(refine qT 0 qi (c3) ?_)|(refine qT 0 qi (c4) ?_)|(refine qT 0 qi (c5) ?_)|(refine qT 0 qi (c6) ?_)|((refine j7 (first:=[]) (cap:=[]) 0 [1] (qr Tryz.func40 rfl rfl) (cd) rfl (⟨rfl,xE rfl⟩) ?_);(repeat (first|exact qE 16 rfl|exact ⟨16,rfl⟩|refine qG (d:=16) rfl (nle rfl) ?_|(apply qL;exact nle rfl;refine ⟨?_,?_⟩;(first|exact fun h=>absurd h Bool.false_ne_true|(intro _;kernel_rfl)))));done))|(refine xsS ?_ ?_;all_goals first|exact False.elim|intro hp hc)|refine xsA ?_ ?_)
theorem qgs (s:qb) (q0:Rqt) (hs:s.length ≤ 1000000000) {v1:Int} {v2:qb} {v3:qb} {v4:qb} {v5:qb} {v6:qb} {v7:Int} {s1:qb} {s2:qb} {s3:qb} {s4:qb} {s5:qb} {s6:qb} {s7:qb} (h1:je s = some (v1,s1)) (h2:jm s1 = some (v2,s2)) (h3:jm s2 = some (v3,s3)) (h4:jm s3 = some (v4,s4)) (h5:jm s4 = some (v5,s5)) (h6:jm s5 = some (v6,s6)) (h7:je s6 = some (v7,s7)) (h8:je s7 = none):vj C2.P 54 [.op 0 0 0,.op 1 0 0] [jZ s,.own true 10 [q0.row]] Qt (fun H' => ∃ x,H' = [x,.own true 10 [q0.row]]):=by
 have c1:=yc s s1 _ (by omega) h1;have l1:=qw h1;have c2:=jS s1 _ s2 (by omega) h2;have l2:=qC h2;have c3:=jS s2 _ s3 (by omega) h3;have l3:=qC h3;have c4:=jS s3 _ s4 (by omega) h4;have l4:=qC h4;have c5:=jS s4 _ s5 (by omega) h5;have l5:=qC h5;have c6:=jS s5 _ s6 (by omega) h6;have l6:=qC h6;have c7:=yc s6 s7 _ (by omega) h7;have l7:=qw h7;have cd:=xD s7 (by omega) h8;clear h1 h2 h3 h4 h5 h6 h7 h8;refine qu (C:=C2) Tryz.func54 rfl _ Tryz.ntmps54 (Nat.le_of_ble_eq_true rfl) 2 rfl rfl ?_
 repeat' (first|refine qo ?_|(first|(refine qT 0 qi (c1) ?_)|(refine qT 0 qi (c2) ?_)|(refine qT 0 qi (c3) ?_)|(refine qT 0 qi (c4) ?_)|(refine qT 0 qi (c5) ?_)|(refine qT 0 qi (c6) ?_)|(refine qT 0 qi (c7) ?_)|((refine j7 (first:=[]) (cap:=[]) 0 [1] (qr Tryz.func40 rfl rfl) (cd) rfl (⟨rfl,xE rfl⟩) ?_);(repeat (first|exact qE 18 rfl|exact ⟨18,rfl⟩|refine qG (d:=18) rfl (nle rfl) ?_|(apply qL;exact nle rfl;refine ⟨?_,?_⟩;(first|exact fun h=>absurd h Bool.false_ne_true|(intro _;kernel_rfl)))));done))|(refine xsS ?_ ?_;all_goals first|exact False.elim|intro hp hc)|refine xsA ?_ ?_)
theorem qgt (s:qb) (q0:Rqt) (hs:s.length ≤ 1000000000) {v1:Int} {v2:qb} {v3:qb} {v4:qb} {v5:qb} {v6:qb} {v7:Int} {v8:Int} {s1:qb} {s2:qb} {s3:qb} {s4:qb} {s5:qb} {s6:qb} {s7:qb} {s8:qb} (h1:je s = some (v1,s1)) (h2:jm s1 = some (v2,s2)) (h3:jm s2 = some (v3,s3)) (h4:jm s3 = some (v4,s4)) (h5:jm s4 = some (v5,s5)) (h6:jm s5 = some (v6,s6)) (h7:je s6 = some (v7,s7)) (h8:je s7 = some (v8,s8)) (h9:je s8 = none):vj C2.P 54 [.op 0 0 0,.op 1 0 0] [jZ s,.own true 10 [q0.row]] Qt (fun H' => ∃ x,H' = [x,.own true 10 [q0.row]]):=by
 have c1:=yc s s1 _ (by omega) h1;have l1:=qw h1;have c2:=jS s1 _ s2 (by omega) h2;have l2:=qC h2;have c3:=jS s2 _ s3 (by omega) h3;have l3:=qC h3;have c4:=jS s3 _ s4 (by omega) h4;have l4:=qC h4;have c5:=jS s4 _ s5 (by omega) h5;have l5:=qC h5;have c6:=jS s5 _ s6 (by omega) h6;have l6:=qC h6;have c7:=yc s6 s7 _ (by omega) h7;have l7:=qw h7;have c8:=yc s7 s8 _ (by omega) h8;have l8:=qw h8;have cd:=xD s8 (by omega) h9;clear h1 h2 h3 h4 h5 h6 h7 h8 h9;refine qu (C:=C2) Tryz.func54 rfl _ Tryz.ntmps54 (Nat.le_of_ble_eq_true rfl) 2 rfl rfl ?_
 repeat' (first|refine qo ?_|(first|(refine qT 0 qi (c1) ?_)|(refine qT 0 qi (c2) ?_)|(refine qT 0 qi (c3) ?_)|(refine qT 0 qi (c4) ?_)|(refine qT 0 qi (c5) ?_)|(refine qT 0 qi (c6) ?_)|(refine qT 0 qi (c7) ?_)|(refine qT 0 qi (c8) ?_)|((refine j7 (first:=[]) (cap:=[]) 0 [1] (qr Tryz.func40 rfl rfl) (cd) rfl (⟨rfl,xE rfl⟩) ?_);(repeat (first|exact qE 20 rfl|exact ⟨20,rfl⟩|refine qG (d:=20) rfl (nle rfl) ?_|(apply qL;exact nle rfl;refine ⟨?_,?_⟩;(first|exact fun h=>absurd h Bool.false_ne_true|(intro _;kernel_rfl)))));done))|(refine xsS ?_ ?_;all_goals first|exact False.elim|intro hp hc)|refine xsA ?_ ?_)
theorem qex (s:qb) (q0:Rqt) (hs:s.length ≤ 1000000000) {v1:Int} {v2:qb} {v3:qb} {v4:qb} {v5:qb} {v6:qb} {v7:Int} {v8:Int} {v9:Int} {s1:qb} {s2:qb} {s3:qb} {s4:qb} {s5:qb} {s6:qb} {s7:qb} {s8:qb} {s9:qb} (h1:je s = some (v1,s1)) (h2:jm s1 = some (v2,s2)) (h3:jm s2 = some (v3,s3)) (h4:jm s3 = some (v4,s4)) (h5:jm s4 = some (v5,s5)) (h6:jm s5 = some (v6,s6)) (h7:je s6 = some (v7,s7)) (h8:je s7 = some (v8,s8)) (h9:je s8 = some (v9,s9)) (h10:Qu s9 = none):vj C2.P 54 [.op 0 0 0,.op 1 0 0] [jZ s,.own true 10 [q0.row]] Qt (fun H' => ∃ x,H' = [x,.own true 10 [q0.row]]):=by
 have c1:=yc s s1 _ (by omega) h1;have l1:=qw h1;have c2:=jS s1 _ s2 (by omega) h2;have l2:=qC h2;have c3:=jS s2 _ s3 (by omega) h3;have l3:=qC h3;have c4:=jS s3 _ s4 (by omega) h4;have l4:=qC h4;have c5:=jS s4 _ s5 (by omega) h5;have l5:=qC h5;have c6:=jS s5 _ s6 (by omega) h6;have l6:=qC h6;have c7:=yc s6 s7 _ (by omega) h7;have l7:=qw h7;have c8:=yc s7 s8 _ (by omega) h8;have l8:=qw h8;have c9:=yc s8 s9 _ (by omega) h9;have l9:=qw h9;have cd:=XD s9 (by omega) h10;clear h1 h2 h3 h4 h5 h6 h7 h8 h9 h10;refine qu (C:=C2) Tryz.func54 rfl _ Tryz.ntmps54 (Nat.le_of_ble_eq_true rfl) 2 rfl rfl ?_
 repeat' (first|refine qo ?_|(first|(refine qT 0 qi (c1) ?_)|(refine qT 0 qi (c2) ?_)|(refine qT 0 qi (c3) ?_)|(refine qT 0 qi (c4) ?_)|(refine qT 0 qi (c5) ?_)|(refine qT 0 qi (c6) ?_)|(refine qT 0 qi (c7) ?_)|(refine qT 0 qi (c8) ?_)|(refine qT 0 qi (c9) ?_)|((refine j7 (first:=[]) (cap:=[]) 0 [1] (qr Tryz.func47 rfl rfl) (cd) rfl (⟨rfl,xE rfl⟩) ?_);(repeat (first|exact qE 22 rfl|exact ⟨22,rfl⟩|refine qG (d:=22) rfl (nle rfl) ?_|(apply qL;exact nle rfl;refine ⟨?_,?_⟩;(first|exact fun h=>absurd h Bool.false_ne_true|(intro _;kernel_rfl)))));done))|(refine xsS ?_ ?_;all_goals first|exact False.elim|intro hp hc)|refine xsA ?_ ?_)
theorem qjc (s:qb) (q0:Rqt) (hs:s.length ≤ 1000000000) (h:qai s = none):vj C2.P 54 [.op 0 0 0,.op 1 0 0] [jZ s,.own true 10 [q0.row]] Qt (fun H' => ∃ x,H' = [x,.own true 10 [q0.row]]):=by
 rcases qji h with h1|⟨v1,s1,h1,h2|⟨v2,s2,h2,h3|⟨v3,s3,h3,h4|⟨v4,s4,h4,h5|⟨v5,s5,h5,h6|⟨v6,s6,h6,h7|⟨v7,s7,h7,h8|⟨v8,s8,h8,h9|⟨v9,s9,h9,h10⟩⟩⟩⟩⟩⟩⟩⟩⟩
 ·exact qgl s q0 hs h1
 ·exact qgm s q0 hs h1 h2
 ·exact qgn s q0 hs h1 h2 h3
 ·exact qgo s q0 hs h1 h2 h3 h4
 ·exact qgp s q0 hs h1 h2 h3 h4 h5
 ·exact qgq s q0 hs h1 h2 h3 h4 h5 h6
 ·exact qgr s q0 hs h1 h2 h3 h4 h5 h6 h7
 ·exact qgs s q0 hs h1 h2 h3 h4 h5 h6 h7 h8
 ·exact qgt s q0 hs h1 h2 h3 h4 h5 h6 h7 h8 h9
 ·exact qex s q0 hs h1 h2 h3 h4 h5 h6 h7 h8 h9 h10
end Go.Proofs.YtgcncinnlmjgdaaGreatDoor
