import Derived.Test.YtamejbkifpjhiaaGreatDoorLz1
import Derived.IntWalk
import Derived.Laws.Cells
set_option linter.unusedSimpArgs false
namespace Go.Ab
open Go.RowKit
def ofV:Value → AV
 | .slice none 0 0 => .sl true []
 | .agg _ | .tuple _ => .junk
 | x => .v x
theorem JC (F:Still) (ρ:Places) (x:Value):M F ρ x (ofV x):=by
 unfold ofV
 split
 ·exact .sl0 _ none 0 true (fun _=>rfl) (fun _=>rfl)
 ·exact .junk _ _
 ·exact .junk _ _
 ·rename_i h1 h2 h3
  refine .v _ x ?_
  cases x<;>simp_all [QO]
def evA (t:Nat → AV):Operand → AV
 | .tmp j=>t j
 | .const v=>ofV v
 | .global _ => .junk
 | .func f => .clo (.func f) [] []
def yr:Operand → List Nat
 | .tmp j => [j]
 | _ => []
theorem qE {F:Still} {ρ:Places} {t:Nat → AV} {a:Act} {x:Operand} {rt:List Nat} (hs : ∀ j,j ∈ rt → M F ρ (a.tmps.getD j undef) (t j)) (hx : ∀ j,j ∈ yr x → j ∈ rt):M F ρ (a.eval x) (evA t x):=by
 cases x with
 | tmp j=>exact hs j (hx j (by simp [yr]))
 | const v=>exact JC F ρ v
 | global g=>exact .junk _ _
 | func f=>exact .clo _ (.func f) [] [] [] [] rfl rfl (fun i v x h=>by simp at h) (fun i v x h=>by simp at h)
def ja (P:Program) (N:Nat) (o:Oper) (t:Nat → AV) (h:Nat → HB) (E:Eff):Prop :=
 ∀ (B:Base) (A:Nat → Prop) (t' : Nat → AV) (h' : Nat → HB) (a:Act) (w:World) (Q:Exit → Act → World → Prop) (K:Act → World → Prop),
   B.N = N → Ga B A t' h' a w → (∀ j,j ∈ E.rt → t' j = t j) → (∀ n,n ∈ E.rh → h' n = h n) → (∀ n,n ∈ E.fr → ¬ A n) →
   (∀ a' w',Ga B (fun n=>A n ∨ n ∈ E.fr) (E.t t') (E.h h') a' w' → K a' w') → o.wp P a w K Q
theorem kg (a:Act) (d i:Nat) (v:Value) (hd:d < a.tmps.size):((a.put (some d) v).tmps).getD i undef = if d = i then v else a.tmps.getD i undef:=by
 simp only [Act.put,Array.getD_eq_getD_getElem?,Array.getElem?_setIfInBounds]
 by_cases h:d = i
 ·subst h;simp [hd]
 ·simp [h]
theorem zo (a:Act) (d:Option Nat) (v:Value):(a.put d v).tmps.size = a.tmps.size:=by
 cases d<;>simp [Act.put]
theorem jV {P:Program} {N:Nat} {o:Oper} {t:Nat → AV} {h:Nat → HB} {d:Nat} {x:AV} (rt:List Nat) (rh:List Nat) (hd:o.dst = some d) (hN:d < N)
  (hrun : ∀ F ρ (a:Act) (w:World),(∀ b o',F b = some o' → w.heap[b]? = some o') → (∀ j,j ∈ rt → M F ρ (a.tmps.getD j undef) (t j)) → (∀ n,n ∈ rh → OwnAt F ρ w n (h n)) →
   ∃ v,(execOp a.eval o).run P w = .ok (.value v) w ∧ M F ρ v x):ja P N o t h ⟨rt,rh,some d,x,[],[]⟩:=by
 intro B A t' h' a w Q K hBN g hrt hrh _ hK
 obtain ⟨g1,g2,F,ρ,hp,g4⟩:=g
 obtain ⟨v,hv,hx⟩:=hrun F ρ a w hp.agree (fun j hj=>(hrt j hj) ▸ g4 j) (fun n hn=>(hrh n hn) ▸ hp.own n)
 unfold Oper.wp
 rw [hv,Oper.upon_value]
 refine hK _ _ ⟨?_,by rw [zo];exact g2,F,ρ,hp.weaken fun n hn => .inl hn,fun i=>?_⟩
 ·cases ho:o.dst<;>simpa [Act.put] using g1
 ·rw [hd,kg _ _ _ _ (by omega)]
  unfold Eff.t Eff.wT
  by_cases hi:d = i
  ·subst hi;simpa using hx
  ·simpa [hi] using g4 i
section values
variable {F:Still} {ρ:Places}
theorem M.v_inv {v x:Value} (h:M F ρ v (.v x)):v = x ∧ QO x = true:=by cases h;exact ⟨rfl,by assumption⟩
theorem M.agg_inv {v:Value} {xs:List AV} (h:M F ρ v (.agg xs)) : ∃ vs:List Value,v = .agg vs.toArray ∧ vs.length = xs.length ∧ ∀ (i:Nat) v x,vs[i]? = some v → xs[i]? = some x → M F ρ v x:=by
 cases h with|agg _ vs xs hl h=>exact ⟨vs,rfl,hl,h⟩
theorem M.tup_inv {v:Value} {xs:List AV} (h:M F ρ v (.tup xs)) : ∃ vs:List Value,v = .tuple vs.toArray ∧ vs.length = xs.length ∧ ∀ (i:Nat) v x,vs[i]? = some v → xs[i]? = some x → M F ρ v x:=by
 cases h with|tup _ vs xs hl h=>exact ⟨vs,rfl,hl,h⟩
end values
section ops
variable {P:Program} {N d:Nat} {ty:TypeId} {pos:String} {af:Array Edge} {gd:Option (Nat × Bool)} {t:Nat → AV} {h:Nat → HB}
theorem X9 (x:Operand) (y:AV) (hx:evA t x = y) (hN:d < N):ja P N ⟨some d,.move x,ty,pos,af,gd⟩ t h ⟨yr x,[],some d,y,[],[]⟩ :=
 jV _ _ rfl hN fun F ρ a w _ hs _=>⟨a.eval x,by simp [execOp],hx ▸ qE hs (fun j hj=>hj)⟩
theorem Ju (x:Operand) (y:AV) (hx:evA t x = y) (hN:d < N):ja P N ⟨some d,.assign x,ty,pos,af,gd⟩ t h ⟨yr x,[],some d,y,[],[]⟩ :=
 jV _ _ rfl hN fun F ρ a w _ hs _=>⟨a.eval x,by simp [execOp],hx ▸ qE hs (fun j hj=>hj)⟩
theorem z6 (c x y:Operand) (z:AV) (hc:evA t c = .v (.bool true)) (hx:evA t x = z) (hN:d < N):ja P N ⟨some d,.pick c x y,ty,pos,af,gd⟩ t h ⟨yr c ++ yr x,[],some d,z,[],[]⟩ :=
 jV _ _ rfl hN fun F ρ a w _ hs _=>by
  have h1:=qE (x:=c) hs (fun j hj=>List.mem_append_left _ hj)
  rw [hc] at h1
  obtain ⟨h1,_⟩:=h1.v_inv
  exact ⟨a.eval x,by simp [execOp,h1,asBool],hx ▸ qE hs (fun j hj=>List.mem_append_right _ hj)⟩
theorem zC (c x y:Operand) (z:AV) (hc:evA t c = .v (.bool false)) (hx:evA t y = z) (hN:d < N):ja P N ⟨some d,.pick c x y,ty,pos,af,gd⟩ t h ⟨yr c ++ yr y,[],some d,z,[],[]⟩ :=
 jV _ _ rfl hN fun F ρ a w _ hs _=>by
  have h1:=qE (x:=c) hs (fun j hj=>List.mem_append_left _ hj)
  rw [hc] at h1
  obtain ⟨h1,_⟩:=h1.v_inv
  exact ⟨a.eval y,by simp [execOp,h1,asBool],hx ▸ qE hs (fun j hj=>List.mem_append_right _ hj)⟩
theorem wG (c x y:Operand) (b:Bool) (z:AV) (hc:evA t c = .v (.bool b)) (b' : Bool) (hb:b = b') (hz:(if b' then evA t x else evA t y) = z) (hN:d < N) :
  ja P N ⟨some d,.pick c x y,ty,pos,af,gd⟩ t h ⟨yr c ++ (if b' then yr x else yr y),[],some d,z,[],[]⟩:=by
 subst hb
 cases b
 ·exact zC c x y z hc hz hN
 ·exact z6 c x y z hc hz hN
theorem Xa (op:BinOp) (T:TypeId) (x y:Operand) (yT:TypeId) (k:IntKind) (a b:Int) (r:Value) (hx:evA t x = .v (.int k a)) (hy:evA t y = .v (.int k b)) (hr:QO r = true)
  (hop : ∀ w,(binOp op T (.int k a) (.int k b)).run P w = .ok r w) (hN:d < N) :
  ja P N ⟨some d,.binOp op T x y yT,ty,pos,af,gd⟩ t h ⟨yr x ++ yr y,[],some d,.v r,[],[]⟩ :=
 jV _ _ rfl hN fun F ρ act w _ hs _=>by
  have h1:=qE (x:=x) hs (fun j hj=>List.mem_append_left _ hj)
  have h2:=qE (x:=y) hs (fun j hj=>List.mem_append_right _ hj)
  rw [hx] at h1;rw [hy] at h2
  obtain ⟨h1,_⟩:=h1.v_inv
  obtain ⟨h2,_⟩:=h2.v_inv
  refine ⟨r,?_,.v _ r hr⟩
  simp only [execOp,h1,h2,eqGuard,Sem.run_bind,hop]
  cases op<;>simp [Result.andThen]
theorem KW (z:Int) (h1 : -9223372036854775808 ≤ z) (h2:z ≤ 9223372036854775807):IntKind.i64.wrap z = z:=IntWalk.i64_in _ ⟨h1,h2⟩
theorem VA (T:TypeId) (x y:Operand) (yT:TypeId) (a b:Int) (hx:evA t x = .v (.int .i64 a)) (hy:evA t y = .v (.int .i64 b)) (h1 : -9223372036854775808 ≤ a + b) (h2:a + b ≤ 9223372036854775807) (hN:d < N) :
  ja P N ⟨some d,.binOp .add T x y yT,ty,pos,af,gd⟩ t h ⟨yr x ++ yr y,[],some d,.v (.int .i64 (a + b)),[],[]⟩ :=
 Xa .add T x y yT .i64 a b _ hx hy rfl (fun w=>by simp [binOp,Op.intArith,KW _ h1 h2]) hN
theorem VE (T:TypeId) (x y:Operand) (yT:TypeId) (a b:Int) (hx:evA t x = .v (.int .i64 a)) (hy:evA t y = .v (.int .i64 b)) (h1 : -9223372036854775808 ≤ a - b) (h2:a - b ≤ 9223372036854775807) (hN:d < N) :
  ja P N ⟨some d,.binOp .sub T x y yT,ty,pos,af,gd⟩ t h ⟨yr x ++ yr y,[],some d,.v (.int .i64 (a - b)),[],[]⟩ :=
 Xa .sub T x y yT .i64 a b _ hx hy rfl (fun w=>by simp [binOp,Op.intArith,KW _ h1 h2]) hN
theorem qgi (T:TypeId) (x y:Operand) (yT:TypeId) (a b:Int) (hx:evA t x = .v (.int .i64 a)) (hy:evA t y = .v (.int .i64 b)) (h1 : -9223372036854775808 ≤ a * b) (h2:a * b ≤ 9223372036854775807) (hN:d < N) :
  ja P N ⟨some d,.binOp .mul T x y yT,ty,pos,af,gd⟩ t h ⟨yr x ++ yr y,[],some d,.v (.int .i64 (a * b)),[],[]⟩ :=
 Xa .mul T x y yT .i64 a b _ hx hy rfl (fun w=>by simp [binOp,Op.intArith,KW _ h1 h2]) hN
def qgP:BinOp → Int → Int → Option Bool
 | .eql,a,b=>some (decide (a = b))
 | .neq,a,b=>some (!decide (a = b))
 | .lss,a,b=>some (decide (a < b))
 | .leq,a,b=>some (decide (a ≤ b))
 | .gtr,a,b=>some (decide (b < a))
 | .geq,a,b=>some (decide (b ≤ a))
 | _,_,_=>none
theorem qgO (a b:Int):(a == b) = decide (a = b):=by
 by_cases h:a = b<;>simp [h]
theorem X8 (op:BinOp) (T:TypeId) (x y:Operand) (yT:TypeId) (k:IntKind) (a b:Int) (c:Bool) (hx:evA t x = .v (.int k a)) (hy:evA t y = .v (.int k b)) (hc:qgP op a b = some c) (hN:d < N) :
  ja P N ⟨some d,.binOp op T x y yT,ty,pos,af,gd⟩ t h ⟨yr x ++ yr y,[],some d,.v (.bool c),[],[]⟩ :=
 Xa op T x y yT k a b _ hx hy rfl (fun w=>by
  cases op<;>simp only [qgP,Option.some.injEq,reduceCtorEq] at hc<;>subst hc<;>simp [binOp,Op.intCmp,qgO,bne] ) hN
theorem Kj (T:TypeId) (x:Operand) (b:Bool) (hx:evA t x = .v (.bool b)) (hN:d < N):ja P N ⟨some d,.unOp .not T x,ty,pos,af,gd⟩ t h ⟨yr x,[],some d,.v (.bool (!b)),[],[]⟩ :=
 jV _ _ rfl hN fun F ρ a w _ hs _=>by
  have h1:=qE (x:=x) hs (fun j hj=>hj)
  rw [hx] at h1
  obtain ⟨h1,_⟩:=h1.v_inv
  exact ⟨.bool (!b),by simp [execOp,h1,Op.unary,Result.andThen],.v _ _ rfl⟩
theorem Ql (x:Operand) (i:Nat) (cs:List AV) (y:AV) (hx:evA t x = .tup cs) (hy:cs[i]? = some y) (hN:d < N):ja P N ⟨some d,.extract x i,ty,pos,af,gd⟩ t h ⟨yr x,[],some d,y,[],[]⟩ :=
 jV _ _ rfl hN fun F ρ a w _ hs _=>by
  have h1:=qE (x:=x) hs (fun j hj=>hj)
  rw [hx] at h1
  obtain ⟨vs,h1,hl,hm⟩:=h1.tup_inv
  have hi:i < vs.length:=by have:=(List.getElem?_eq_some_iff.1 hy).1;omega
  have hv:vs[i]? = some vs[i]:=List.getElem?_eq_getElem hi
  exact ⟨vs[i],by simp [execOp,h1,Instr.extract,hi,Result.andThen],hm i _ _ hv hy⟩
theorem X7 (fn:Fn) (first cap:Array Operand) (hN:d < N) :
  ja P N ⟨some d,.makeFunc fn first cap,ty,pos,af,gd⟩ t h ⟨first.toList.flatMap yr ++ cap.toList.flatMap yr,[],some d,.clo fn (first.toList.map (evA t)) (cap.toList.map (evA t)),[],[]⟩ :=
 jV _ _ rfl hN fun F ρ a w _ hs _=>by
  refine ⟨.func fn (first.map a.eval) (cap.map a.eval),by simp [execOp,Instr.makeFunc,Result.andThen],?_⟩
  have key : ∀ (l:List Operand) (rt:List Nat),(∀ j,j ∈ l.flatMap yr → j ∈ rt) → (∀ j,j ∈ rt → M F ρ (a.tmps.getD j undef) (t j)) → ∀ (i:Nat) v x,(l.map a.eval)[i]? = some v → (l.map (evA t))[i]? = some x → M F ρ v x:=by
   intro l rt hin hs i v x hv hx
   rw [List.getElem?_map] at hv hx
   cases hl:l[i]? with
   | none=>simp [hl] at hv
   | some o =>
     simp only [hl,Option.map_some,Option.some.injEq] at hv hx
     subst hv;subst hx
     exact qE hs fun j hj=>hin j (List.mem_flatMap.2 ⟨o,List.mem_of_getElem? hl,hj⟩)
  have e1:first.map a.eval = (first.toList.map a.eval).toArray:=by rw [← Array.toList_map]
  have e2:cap.map a.eval = (cap.toList.map a.eval).toArray:=by rw [← Array.toList_map]
  rw [e1,e2]
  exact .clo _ fn _ _ _ _ (by simp) (by simp) (key _ _ (fun j hj=>List.mem_append_left _ hj) hs) (key _ _ (fun j hj=>List.mem_append_right _ hj) hs)
end ops
end Go.Ab
