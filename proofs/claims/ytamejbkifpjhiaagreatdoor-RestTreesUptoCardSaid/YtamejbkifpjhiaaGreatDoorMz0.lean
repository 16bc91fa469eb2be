import Derived.Test.YtamejbkifpjhiaaGreatDoorLyB
import Derived.MapKept
set_option linter.unusedSimpArgs false
set_option linter.unusedVariables false
namespace Go.Ab
open Go.RowKit
section ops
variable {C:Cx} {N d:Nat} {ty:TypeId} {pos:String} {af:Array Edge} {gd:Option (Nat × Bool)} {t:Nat → AV} {h:Nat → HB}
theorem qcm {P:Program} {T:Nat} {r:TRec} (hT:QQ P T = some r) (he:r.kind = .bool):P.underlying T = some .bool:=by
 obtain ⟨dd,i,z,hd,_,_,hk,_⟩:=yG hT
 rw [he] at hk
 cases dd<;>first|exact hd|(simp [vE] at hk)
theorem qe8 (op:BinOp) (T:TypeId) (x y:Operand) (yT:TypeId) (a b c:Bool) (r:TRec) (hx:evA t x = .v (.bool a)) (hy:evA t y = .v (.bool b)) (hT:qW C.tab T = some r) (he:r.kind = .bool) (hop:(op = .eql ∧ c = (a == b)) ∨ (op = .neq ∧ c = (a != b))) (hN:d < N) :
  ja C.P N ⟨some d,.binOp op T x y yT,ty,pos,af,gd⟩ t h ⟨yr x ++ yr y,[],some d,.v (.bool c),[],[]⟩ :=
 jV _ _ rfl hN fun F ρ act w _ hs _=>by
  have h1:=qE (x:=x) hs (fun j hj=>List.mem_append_left _ hj)
  have h2:=qE (x:=y) hs (fun j hj=>List.mem_append_right _ hj)
  rw [hx] at h1;rw [hy] at h2
  obtain ⟨h1,_⟩:=h1.v_inv
  obtain ⟨h2,_⟩:=h2.v_inv
  refine ⟨.bool c,?_,.v _ _ rfl⟩
  have hu:=qcm (C.ok T r hT) he
  have heq:(Op.equal T (.bool a) (.bool b)).run C.P w = .ok (a == b) w:=by
   show (Op.equalIn (9999 + 1) T (.bool a) (.bool b)).run C.P w = _
   unfold Op.equalIn
   simp [run_underlying hu]
  rcases hop with ⟨rfl,rfl⟩|⟨rfl,rfl⟩
  ·simp [execOp,h1,h2,eqGuard,binOp,heq]
  ·simp [execOp,h1,h2,eqGuard,binOp,heq,bne]
end ops
end Go.Ab
set_option linter.unusedSimpArgs false
set_option linter.unusedVariables false
namespace Go.Ab
open Go.RowKit
section ops
variable {C:Cx} {N d:Nat} {ty:TypeId} {pos:String} {af:Array Edge} {gd:Option (Nat × Bool)} {t:Nat → AV} {h:Nat → HB}
theorem YG {P:Program} {T:Nat} {r:TRec} {k:IntKind} (hT:QQ P T = some r) (he:r.kind = .int k):P.underlying T = some (.int k):=by
 obtain ⟨dd,i,z,hd,_,_,hk,_⟩:=yG hT
 rw [he] at hk
 cases dd<;>first|(simp only [vE,TK.int.injEq] at hk;subst hk;exact hd)|(simp [vE] at hk)
theorem X6 (src dst:TypeId) (x:Operand) (k0 k:IntKind) (n m:Int) (rs r:TRec) (hx:evA t x = .v (.int k0 n)) (hs:qW C.tab src = some rs) (hs' : rs.kind = .int k0) (hT:qW C.tab dst = some r) (he:r.kind = .int k) (hw:k.wrap n = m) (hN:d < N) :
  ja C.P N ⟨some d,.convert src dst x,ty,pos,af,gd⟩ t h ⟨yr x,[],some d,.v (.int k m),[],[]⟩ :=
 jV _ _ rfl hN fun F ρ a w _ hs1 _=>by
  have h1:=qE (x:=x) hs1 (fun j hj=>hj)
  rw [hx] at h1
  obtain ⟨h1,_⟩:=h1.v_inv
  refine ⟨.int k m,?_,.v _ _ rfl⟩
  have hu:=YG (C.ok _ r hT) he
  have hu2:=YG (C.ok _ rs hs) hs'
  subst hw
  simp [execOp,h1,convert,run_underlying hu,run_underlying hu2,Conv.intToInt]
theorem qcr (src dst:TypeId) (x:Operand) (n:Int) (rs r:TRec) (hx:evA t x = .v (.int .i64 n)) (hs:qW C.tab src = some rs) (hs' : rs.kind = .int .i64) (hT:qW C.tab dst = some r) (he:r.kind = .int .u64) (h0:0 ≤ n) (h1:n ≤ 18446744073709551615) (hN:d < N) :
  ja C.P N ⟨some d,.convert src dst x,ty,pos,af,gd⟩ t h ⟨yr x,[],some d,.v (.int .u64 n),[],[]⟩ :=
 X6 src dst x .i64 .u64 n n rs r hx hs hs' hT he (IntWalk.u64_in _ ⟨h0,h1⟩) hN
theorem qcq (src dst:TypeId) (x:Operand) (n:Int) (rs r:TRec) (hx:evA t x = .v (.int .u64 n)) (hs:qW C.tab src = some rs) (hs' : rs.kind = .int .u64) (hT:qW C.tab dst = some r) (he:r.kind = .int .i64) (h0:0 ≤ n) (h1:n ≤ 9223372036854775807) (hN:d < N) :
  ja C.P N ⟨some d,.convert src dst x,ty,pos,af,gd⟩ t h ⟨yr x,[],some d,.v (.int .i64 n),[],[]⟩ :=
 X6 src dst x .u64 .i64 n n rs r hx hs hs' hT he (IntWalk.i64_in _ ⟨by omega,h1⟩) hN
theorem qfa (T:TypeId) (x y:Operand) (yT:TypeId) (k yk:IntKind) (a:Int) (hk:k.bits ≠ 0) (hx:evA t x = .v (.int k a)) (hy:evA t y = .v (.int yk 1)) (hN:d < N) :
  ja C.P N ⟨some d,.binOp .shr T x y yT,ty,pos,af,gd⟩ t h ⟨yr x ++ yr y,[],some d,.v (.int k (a / 2)),[],[]⟩ :=
 jV _ _ rfl hN fun F ρ act w _ hs _=>by
  have h1:=qE (x:=x) hs (fun j hj=>List.mem_append_left _ hj)
  have h2:=qE (x:=y) hs (fun j hj=>List.mem_append_right _ hj)
  rw [hx] at h1;rw [hy] at h2
  obtain ⟨h1,_⟩:=h1.v_inv
  obtain ⟨h2,_⟩:=h2.v_inv
  refine ⟨.int k (a / 2),?_,.v _ _ rfl⟩
  have hmin:min 1 k.bits = 1:=by omega
  simp [execOp,h1,h2,eqGuard,binOp,Op.shift]
  rw [hmin]
  exact Int.fdiv_eq_ediv_of_nonneg _ (by decide)
theorem qdS {f:FuncId} {args:List Operand} {tys:Array TypeId} {ys:List AV} {r r' : AV} {hb hb' : HB} (rh:List Nat) (n m:Nat) (hn:h n = hb) (ho:hb.isOwn = true) (hnr:n ∈ rh) (hmn:m ≠ n)
  (hf:IsFn C.P f) (hc:qZ C.P f ys [hb] r [.dead,hb']) (hz:jA [(n,0)] rh h (args.map (evA t)) ys) (hr:r.ren [(0,n),(1,m)] = r') (hbp:vq [(n,0)] 0 hb hb) (hbp' : vq [(0,n),(1,m)] 0 hb' hb') (hN:d < N) :
  ja C.P N ⟨some d,.call ⟨.value (.func f),args.toArray,tys⟩,ty,pos,af,gd⟩ t h ⟨yr (.func f) ++ args.flatMap yr,rh,some d,r',[(n,.dead),(m,hb')],[m]⟩ :=
 ky (H:=[hb]) (H':=[.dead,hb']) (xs:=[] ++ args.map (evA t) ++ []) (ys:=ys) _ rh [(n,.dead),(m,hb')] [m] rfl hN (vO f hf (.func f) args tys [] [] rfl) rfl (by simp) (by simp [Ne.symm hmn]) (fun m hm=>by simp at hm;subst hm;exact hnr)
  (by rw [List.nil_append,List.append_nil];exact hz) hc (fun i m hb1 hi hj=>by
   cases i with
   | zero=>simp at hi hj;subst hi;subst hj;rw [hn];exact ⟨ho,hbp⟩
   | succ i=>simp at hi) (fun i m hb1 hi=>by
   cases i with
   | zero=>simp at hi;obtain ⟨rfl,rfl⟩:=hi;trivial
   | succ i =>
     cases i with
     | zero=>simp at hi;obtain ⟨rfl,rfl⟩:=hi;exact hbp'
     | succ i=>simp at hi) (hr ▸ YU _ _ _)
end ops
theorem qcP {C:Cx} {N:Nat} {all:Array Oper} {es:List Eff} {o:Oper} {os:List Oper} {K:List Eff → St → Prop} {ts:List (Nat × AV)} {hs:List (Nat × HB)} {nx:Nat} {gd rt rh:List Nat} {d:Nat} {x:AV} {hb hb' : HB} {m:Nat} (hE:ja C.P N o (qS ts) (jg hs) ⟨rt,rh,some d,x,[(m,hb'),(nx,hb)],[nx]⟩)
  (h:yH C N all (⟨gd ++ rt,rh,some d,x,[(m,hb'),(nx,hb)],[nx]⟩ :: es) ⟨(d,x) :: ts,(m,hb') :: (nx,hb) :: hs,nx + 1⟩ os K):jH C N all gd es ⟨ts,hs,nx⟩ o os K:=by
 refine wq (τ:=⟨(d,x) :: ts,(m,hb') :: (nx,hb) :: hs,nx + 1⟩) hE ?_ ?_ (by simp [ki]) (by simp) (Nat.le_succ _) h
 ·funext i;simp only [Eff.t,Eff.wT,Option.some.injEq,qS];split<;>rfl
 ·funext n
  simp only [Eff.h,Eff.wH,y6,jg]
  split
  ·rfl
  ·split<;>rfl
theorem xn {L:List (Nat × Nat)} {nh:Nat} {σ:St} {n' : Nat} {l:List (Nat × HB)} (n:Nat) (hm:Maps L nh n n') (hl:vp L nh σ l):vp L nh σ ((n',.dead) :: l):=⟨⟨n,hm,by cases jg σ.hs n<;>trivial⟩,hl⟩
end Go.Ab
set_option linter.unusedSimpArgs false
set_option linter.unusedVariables false
namespace Go.Ab
open Go.RowKit
def z7 (k n:Nat):List (List AV):=List.replicate n (List.replicate k .junk)
@[simp] theorem w4 (k n:Nat):(z7 k n).length = n:=by simp [z7]
theorem qe1 {C:Cx} {N:Nat} {c:Code} {Q:Exit → St → Prop} {ts:List (Nat × AV)} {hs:List (Nat × HB)} {nx:Nat} (n k:Nat) (rows:List (List AV)) (hn:jg hs n = .own false k rows)
  (h : ∀ cap,rows.length ≤ cap → Awp C N c Q ⟨ts,(n,.own true k (rows ++ z7 k (cap - rows.length))) :: hs,nx⟩):Awp C N c Q ⟨ts,hs,nx⟩:=by
 intro B a w hB g
 obtain ⟨g1,g2,F,ρ,hp,g4⟩:=g
 have ho:=hp.own n
 have hn' : jg (⟨ts,hs,nx⟩ : St).hs n = .own false k rows:=hn
 have main : ∀ cap,rows.length ≤ cap → OwnAt F ρ w n (.own true k (rows ++ z7 k (cap - rows.length))) → Gs B ⟨ts,(n,.own true k (rows ++ z7 k (cap - rows.length))) :: hs,nx⟩ a w:=by
  intro cap hcap hown
  have hiso : ∀ m,(jg ((n,.own true k (rows ++ z7 k (cap - rows.length))) :: hs) m).isOwn = true → (jg hs m).isOwn = true:=by
   intro m hm
   rw [xF] at hm
   by_cases e:n = m
   ·subst e;rw [hn];rfl
   ·rw [if_neg e] at hm;exact hm
  refine ⟨g1,g2,F,ρ,?_,g4⟩
  refine { kept:=hp.kept,agree:=hp.agree,grow:=hp.grow,fresh:=hp.fresh,names:=hp.names,dom:=hp.dom,own:=fun m=>?_,new:=fun m b c ho hm=>hp.new m b c (hiso m ho) hm,sep:=fun m m' b c c' hne ho ho'=>hp.sep m m' b c c' hne (hiso m ho) (hiso m' ho') }
  show OwnAt F ρ w m (jg ((n,_) :: hs) m)
  rw [xF]
  by_cases e:n = m
  ·subst e;rw [if_pos rfl];exact hown
  ·rw [if_neg e];exact hp.own m
 rw [hn'] at ho
 rcases ho with ⟨h1,h2⟩|⟨b,cap,cc,e,h1,h2,h3,h4,h5,h6⟩
 ·subst h2
  exact h 0 (Nat.le_refl _) B a w hB (main 0 (Nat.le_refl _) (.inl ⟨h1,by simp [z7]⟩))
 ·refine h cap h4 B a w hB (main cap h4 (.inr ⟨b,cap,cc,e,h1,h2,h3,?_,?_,?_,?_⟩))
  ·rw [List.length_append,w4];omega
  ·intro _;rw [List.length_append,w4];omega
  ·intro row hr
   rcases List.mem_append.1 hr with hr|hr
   ·exact h6.1 row hr
   ·simp only [z7,List.mem_replicate] at hr;rw [hr.2];simp
  ·intro i j row x v hi hj hv
   by_cases hil:i < rows.length
   ·rw [List.getElem?_append_left hil] at hi
    exact h6.2 i j row x v hi hj hv
   ·rw [List.getElem?_append_right (by omega)] at hi
    have hr:=List.mem_of_getElem? hi
    simp only [z7,List.mem_replicate] at hr
    rw [hr.2] at hj
    have hx:=List.mem_of_getElem? hj
    rw [List.mem_replicate] at hx
    rw [hx.2]
    exact .junk _ v
section ops
variable {C:Cx} {N d:Nat} {ty:TypeId} {pos:String} {af:Array Edge} {gd:Option (Nat × Bool)} {t:Nat → AV} {h:Nat → HB}
theorem qcp (argT ty' : Nat) (x:Operand) (n off len k:Nat) (rows:List (List AV)) (r:TRec) (e:Nat) (hx:evA t x = .os n off len) (hn:h n = .own true k rows) (hT:qW C.tab argT = some r) (he:r.kind = .slice e) (hN:d < N) :
  ja C.P N ⟨some d,.call ⟨.builtin .cap, #[x], #[argT]⟩,ty',pos,af,gd⟩ t h ⟨yr x,[n],some d,.v (.int .i64 ((rows.length - off:Nat):Int)),[],[]⟩ :=
 jV _ _ rfl hN fun F ρ a w _ hs hh=>by
  have h1:=qE (x:=x) hs (fun j hj=>hj)
  rw [hx] at h1
  have ho:=hh n (by simp)
  rw [hn] at ho
  have hu:=yj (C.ok _ r hT) he
  refine ⟨.int .i64 ((rows.length - off:Nat):Int),?_,.v _ _ rfl⟩
  rcases h1.os_inv with ⟨hρ,rfl,rfl,ad0,hv⟩|⟨b,k',cap,ad,hρ,hv,hl,ha⟩
  ·rcases ho with ⟨_,h2⟩|⟨b,cap,c,e,h2,_⟩
   ·subst h2
    simp [execOp,resolve,invoke,builtin,Builtin.cap_,hv,run_underlying hu,goInt]
   ·rw [hρ] at h2;cases h2
  ·obtain ⟨rfl,c,e0,hb,hcs,hle,hex,hR⟩:=y8 ho hρ
   have:=hex rfl
   subst this
   simp [execOp,resolve,invoke,builtin,Builtin.cap_,hv,run_underlying hu,goInt]
def qf3 (P:Program) (t:Nat → AV) (h:Nat → HB) (y:Operand) (k slen:Nat) (rows:List (List AV)) (rh:List Nat):Prop :=
 ∀ (F:Still) (ρ:Places) (w:World) (a:Act),(∀ b o,F b = some o → w.heap[b]? = some o) → M F ρ (a.eval y) (evA t y) → (∀ n,n ∈ rh → OwnAt F ρ w n (h n)) →
   ∃ news ad cap,a.eval y = .slice ad slen cap ∧ Src P F ρ w (.slice ad rows.length cap) k rows news
theorem qfF {P:Program} {y:Operand} {k:Nat} {rows:List (List AV)} {rh:List Nat} (hs:SrcA t h y k rows rh):qf3 P t h y k rows.length rows rh:=by
 intro F ρ w a hag hm hown
 obtain ⟨news,hsrc⟩:=hs.src (P:=P) hag hm hown
 have hl:=(hsrc.1 w rfl).1
 have hsl : ∃ ad n cap,a.eval y = .slice ad n cap:=by
  rcases hs.2.2 with ⟨ex,he⟩|⟨n,off,len,ex,rs,he,_⟩
  ·rw [he] at hm
   rcases hm.sl_inv with ⟨h2,ad,cap,hv,_⟩|⟨b,o,cap,c,e',fr,kk,hb,h2,_,hsz,hkk,hR,hv⟩
   ·exact ⟨_,_,_,hv⟩
   ·exact ⟨_,_,_,hv⟩
  ·rw [he] at hm
   rcases hm.os_inv with ⟨_,_,_,ad,hv⟩|⟨b,k',cap,ad,hρ,hv,_⟩
   ·exact ⟨_,_,_,hv⟩
   ·exact ⟨_,_,_,hv⟩
 obtain ⟨ad,n,cap,hv⟩:=hsl
 rw [hv] at hl hsrc
 have hn:n = rows.length:=by simpa [Builtin.lenOf] using hl
 subst hn
 exact ⟨news,ad,cap,hv,hsrc⟩
theorem qeA {P:Program} {y:Operand} {k n off len cnt:Nat} {ex:Bool} {rs rows:List (List AV)} {rh:List Nat} (he:evA t y = .os n off len) (hnr:n ∈ rh) (hn:h n = .own ex k rs) (hc:cnt ≤ len) (hl:off + cnt ≤ rs.length) (hrows:(rs.drop off).take cnt = rows)
  (hk : ∀ row,row ∈ rows → row.length = k) (hcl : ∀ row,row ∈ rows → row.all yo = true):qf3 P t h y k len rows rh:=by
 intro F ρ w a hag hm hown
 have ho:=hown n hnr
 rw [hn] at ho
 rw [he] at hm
 have hlen:rows.length = cnt:=by rw [← hrows];simp;omega
 rcases hm.os_inv with ⟨_,rfl,rfl,ad,hv⟩|⟨b,k',cap,ad,hρ,hv,hcap,ha⟩
 ·have hr:rows = []:=List.eq_nil_of_length_eq_zero (by omega)
  subst hr
  exact ⟨[],ad,0,hv,wc⟩
 ·obtain ⟨rfl,c,e,hb,hsz,hle,_,hR⟩:=y8 ho hρ
  by_cases h0:cnt = 0
  ·have hr:rows = []:=List.eq_nil_of_length_eq_zero (by omega)
   subst hr
   exact ⟨[],some ad,_,hv,wc⟩
  ·have ha':=ha (by omega)
   subst ha'
   refine ⟨_,_,_,hv,XA hb ?_ hk hcl fun i j row x v h1 h2 h3=>?_⟩
   ·rw [hsz,hlen, ← Nat.add_mul];exact Nat.mul_le_mul_right _ (by omega)
   ·rw [← hrows] at h1
    have hi:i < cnt:=by have:=(List.getElem?_eq_some_iff.1 h1).1;simp at this;omega
    rw [getElem?_drop_take _ _ _ _ hi] at h1
    exact hR.2 (off + i) j row x v h1 h2 (by rw [Nat.add_mul];exact h3)
theorem VC (T T' ty' e:Nat) (x y:Operand) (n off len slen:Nat) (ex:Bool) (rs rows:List (List AV)) (rh:List Nat) (r re:TRec) (hx:evA t x = .os n off len) (hn:h n = .own ex re.size rs) (hT:qW C.tab T = some r) (he:r.kind = .slice e) (hE:qW C.tab e = some re)
  (hsrc:qf3 C.P t h y re.size slen rows rh) (hmin:Nat.min slen len = rows.length) (hfit:off + len ≤ rs.length) (hN:d < N) :
  ja C.P N ⟨some d,.call ⟨.builtin .copy, #[x,y], #[T,T']⟩,ty',pos,af,gd⟩ t h ⟨yr x ++ yr y,n :: rh,some d,.v (.int .i64 (rows.length:Int)),[(n,.own ex re.size (rs.take off ++ rows ++ rs.drop (off + rows.length)))],[]⟩:=by
 have hrl:rows.length ≤ len:=by rw [← hmin];exact Nat.min_le_right _ _
 refine VD (C:=C) _ _ n ex re.size off rs rows (fun d' hd'=>by injection hd' with e;exact e ▸ hN) hn (by simp) (by omega) ?_
 intro B A h' F ρ a w hp hm hh
 have h1:=qE (x:=x) hm (fun j hj=>List.mem_append_left _ hj)
 have h2:=qE (x:=y) hm (fun j hj=>List.mem_append_right _ hj)
 rw [hx] at h1
 have hu:=yj (C.ok T r hT) he
 obtain ⟨dd,inf,z,_,hi,hz0,_,_,hsize,hbytes,hzc⟩:=yG (C.ok e re hE)
 obtain ⟨news,ady,capy,hvy,hnews,hnl,hn1,hnR⟩:=hsrc F ρ w a hp.agree h2 (fun n' hn'=>(hh n' (List.mem_cons_of_mem _ hn')) ▸ hp.own n')
 have e2:=(hnews w rfl).2
 rw [← hsize] at e2
 have e3:(Builtin.firstCells inf.size rows.length (.slice ady slen capy)).run C.P w = .ok news.toArray w:=by
  cases ady<;>exact e2
 have hn' : h' n = .own ex re.size rs:=(hh n (by simp)).trans hn
 have ho:=hp.own n
 rw [hn'] at ho
 refine ⟨news,hnl,hn1,hnR,?_⟩
 rcases h1.os_inv with ⟨hρn,rfl,rfl,ad,hv⟩|⟨b,k',cap,ad,hρn,hv,hcap,ha⟩
 ·left
  have hr:rows = []:=List.eq_nil_of_length_eq_zero (by omega)
  subst hr
  have hnn:news = []:=List.eq_nil_of_length_eq_zero (by simpa using hnl)
  subst hnn
  refine ⟨hρn,rfl,.value (.int .i64 0),?_,.inr ⟨_,rfl,.v _ _ rfl⟩⟩
  simp only [List.length_nil] at e3 hmin
  cases ad<;>simp [execOp,resolve,invoke,builtin,hv,hvy,Builtin.copy_,Builtin.lenOf,run_underlying hu,sizeOf,typeInfo,hi,e3,storeCells,goInt]
 ·right
  obtain ⟨rfl,c,e0,hb,hcs,hle,_,hR⟩:=y8 ho hρn
  refine ⟨b,cap,hρn,fun w' hw1 hw2=>⟨.value (.int .i64 (rows.length:Int)),?_,.inr ⟨_,rfl,.v _ _ rfl⟩⟩⟩
  have hs2:(storeCells ad news).run C.P w = .ok () w':=by
   by_cases hnn:news = []
   ·rw [hw2 hnn,hnn];rfl
   ·have hcp:off < cap:=by
     have:0 < rows.length:=by
      rcases Nat.eq_zero_or_pos rows.length with h0|h0
      ·rw [h0] at hnl;exact absurd (List.eq_nil_of_length_eq_zero (by simpa using hnl)) hnn
      ·exact h0
     omega
    rw [ha hcp]
    exact hw1 hnn
  simp [execOp,resolve,invoke,builtin,hv,hvy,Builtin.copy_,Builtin.lenOf,run_underlying hu,sizeOf,typeInfo,hi,hmin,e3,hs2,goInt]
end ops
end Go.Ab
set_option linter.unusedSimpArgs false
set_option linter.unusedVariables false
namespace Go.Ab
open Go.RowKit
def xb (l:List (List UInt8 × AV)) (s:List UInt8) (x:AV):List (List UInt8 × AV) :=
 match l.findIdx? (fun e=>e.1 == s) with
 | some j=>l.set j (s,x)
 | none=>l ++ [(s,x)]
theorem Q9 (e:List UInt8 × AV) (l:List (List UInt8 × AV)) (s:List UInt8) (x:AV):xb (e :: l) s x = if e.1 = s then (s,x) :: l else e :: xb l s x:=by
 unfold xb
 rw [List.findIdx?_cons]
 by_cases h:e.1 = s
 ·rw [if_pos (by simpa using h),if_pos h];rfl
 ·rw [if_neg (by simpa using h),if_neg h]
  cases List.findIdx? (fun e=>e.1 == s) l with
  | none=>rfl
  | some j=>rfl
def xJ (l:List (List UInt8 × AV)) (s:List UInt8):List (List UInt8 × AV):=l.filter fun e=>decide (e.1 ≠ s)
theorem kE {s:List UInt8} : ∀ {l:List (List UInt8 × AV)},s ∉ l.map (·.1) → xJ l s = l:=fun h=>List.filter_eq_self.2 fun e he=>by
 have:e.1 ≠ s:=fun h'=>h (h' ▸ List.mem_map.2 ⟨e,he,rfl⟩)
 simpa using this
theorem wJ {s:List UInt8} {x:AV} : ∀ {l:List (List UInt8 × AV)},(l.map (·.1)).Nodup → (xb l s x).Perm ((s,x) :: xJ l s)
 | [],_ => .refl _
 | e :: l,h=>by
   rw [List.map_cons,List.nodup_cons] at h
   rw [Q9]
   by_cases he:e.1 = s
   ·rw [if_pos he]
    have:xJ (e :: l) s = l:=by
     unfold xJ
     rw [List.filter_cons_of_neg (by simpa using he)]
     exact kE (he ▸ h.1)
    rw [this]
   ·rw [if_neg he]
    have:xJ (e :: l) s = e :: xJ l s:=by
     unfold xJ
     rw [List.filter_cons_of_pos (by simpa using he)]
    rw [this]
    exact ((wJ h.2).cons e).trans (.swap _ _ _)
theorem WL {l l' : List (List UInt8 × AV)} (s:List UInt8) (x:AV) (hp:l'.Perm l) (h:(l'.map (·.1)).Nodup):(xb l' s x).Perm (xb l s x) :=
 (wJ h).trans (((hp.filter _).cons _).trans (wJ ((hp.map _).nodup_iff.1 h)).symm)
def vF (l:List (List UInt8 × AV)) (s:List UInt8):Option AV:=(l.find? fun e=>e.1 == s).map (·.2)
theorem Qw {l:List (List UInt8 × AV)} (h:(l.map (·.1)).Nodup) {s:List UInt8} {x:AV}:vF l s = some x ↔ (s,x) ∈ l:=by
 induction l with
 | nil=>simp [vF]
 | cons e l ih =>
   rw [List.map_cons,List.nodup_cons] at h
   unfold vF at ih ⊢
   rw [List.find?_cons]
   by_cases he:e.1 = s
   ·rw [show (e.1 == s) = true from by simpa using he]
    simp only [Option.map_some,Option.some.injEq,List.mem_cons]
    constructor
    ·rintro rfl;exact .inl (by rw [← he])
    ·rintro (h1|h1)
     ·rw [← h1]
     ·exact absurd (he ▸ List.mem_map.2 ⟨_,h1,rfl⟩ : e.1 ∈ l.map (·.1)) h.1
   ·rw [show (e.1 == s) = false from by simpa using he]
    simp only [List.mem_cons]
    rw [ih h.2]
    constructor
    ·exact .inr
    ·rintro (h1|h1)
     ·exact absurd (by rw [← h1]) he
     ·exact h1
theorem WK {l l' : List (List UInt8 × AV)} (s:List UInt8) (hp:l'.Perm l) (h:(l'.map (·.1)).Nodup):vF l' s = vF l s:=by
 have h2:=(hp.map (·.1)).nodup_iff.1 h
 apply Option.ext
 intro x
 rw [Qw h,Qw h2,hp.mem_iff]
theorem Y1 {a b:List UInt8}:(Value.string ⟨a.toArray⟩ = Value.string ⟨b.toArray⟩) ↔ a = b:=by simp
theorem Jz (s:List UInt8) : ∀ (es:List MapEntry) (l:List (List UInt8 × AV)) (i:Nat),es.length = l.length → (∀ (j:Nat) e x,es[j]? = some e → l[j]? = some x → e.key = .string ⟨x.1.toArray⟩) →
  (l.findIdx? (fun e=>e.1 == s) = none ∧ Instr.findNow .string (.string ⟨s.toArray⟩) es i = some none) ∨
  ∃ j e,l.findIdx? (fun e=>e.1 == s) = some j ∧ es[j]? = some e ∧ e.key = .string ⟨s.toArray⟩ ∧ Instr.findNow .string (.string ⟨s.toArray⟩) es i = some (some (i + j,e.val))
 | [],[],i,_,_ => .inl ⟨rfl,rfl⟩
 | e :: es,x :: l,i,hl,hk=>by
   have h0:=hk 0 e x rfl rfl
   obtain ⟨r,hr,hiff⟩:=Go.MapKept.sameNow_of_keys (d := .string) (a := .string ⟨s.toArray⟩) (b:=e.key) trivial (by rw [h0];trivial)
   have hx:(x.1 == s) = r:=by
    rw [h0,Y1] at hiff
    rw [Bool.eq_iff_iff,hiff]
    constructor
    ·intro h;exact (beq_iff_eq.1 h).symm
    ·intro h;exact beq_iff_eq.2 h.symm
   cases r with
   | true=>exact .inr ⟨0,e,by simp [List.findIdx?_cons,hx],rfl,(hiff.1 rfl).symm,by simp [Instr.findNow,hr]⟩
   | false =>
     rcases Jz s es l (i + 1) (by simpa using hl) (fun j e' x' h1 h2=>hk (j + 1) e' x' (by simpa using h1) (by simpa using h2)) with ⟨h1,h2⟩|⟨j,e',h1,h2,h3,h4⟩
     ·exact .inl ⟨by simp [List.findIdx?_cons,hx,h1],by simp [Instr.findNow,hr,h2]⟩
     ·exact .inr ⟨j + 1,e',by simp [List.findIdx?_cons,hx,h1],by simpa using h2,h3,by simp [Instr.findNow,hr,h4];omega⟩
 | [],_ :: _,_,hl,_=>by simp at hl
 | _ :: _,[],_,hl,_=>by simp at hl
theorem YI {P:Program} {T:Nat} {r:TRec} {k e:Nat} (hT:QQ P T = some r) (he:r.kind = .map k e):P.underlying T = some (.map k e):=by
 obtain ⟨dd,i,z,hd,_,_,hk,_⟩:=yG hT
 rw [he] at hk
 cases dd<;>simp [vE] at hk
 obtain ⟨rfl,rfl⟩:=hk
 exact hd
section ops
variable {C:Cx} {N d:Nat} {ty:TypeId} {pos:String} {af:Array Edge} {gd:Option (Nat × Bool)} {t:Nat → AV} {h:Nat → HB}
theorem M.mp_inv {F:Still} {ρ:Places} {v:Value} {n:Nat} (hm:M F ρ v (.mp n)) : ∃ b,v = .map (some b) ∧ ρ n = some (some (b,0,0)):=by
 cases hm with|mp _ _ b hn=>exact ⟨b,rfl,hn⟩
theorem kq (T:TypeId) (m:Nat) (hN:d < N):ja C.P N ⟨some d,.makeMap T none,ty,pos,af,gd⟩ t h ⟨[],[],some d,.mp m,[(m,.mp (.map []))],[m]⟩:=by
 refine wX (ks:=[]) [] [] m (.mp (.map [])) [m] (fun d' hd'=>by injection hd' with e;exact e ▸ hN) (.inl rfl) (by simp) ?_
 intro B A h' F ρ a w hp hm hh hfr
 have hρ:ρ m = none:=hfr m (by simp)
 refine ⟨.value (.map (some w.heap.size)),w.alloc (.map #[] 0),some (w.heap.size,0,0),none,?_,.inr ⟨_,rfl,.mp _ m _ (by simp)⟩,.inl hρ,hp.kept.alloc _,(fun b hb=>by cases hb),fun b hb _=>heap_alloc_old w _ b hb,(fun b c hb=>by simp only [Option.some.injEq,Prod.mk.injEq] at hb;exact .inr (by omega)),⟨w.heap.size,.map #[] 0,(0,0),by simp,heap_alloc_new w _, #[],0,rfl,[],.refl _,rfl,List.nodup_nil,Go.MapKept.stamped_empty 0,fun i e x he=>by simp at he⟩,(fun h=>by cases h)⟩
 simp [execOp,run_makeMap]
theorem Jv (argT ty' : Nat) (x:Operand) (n:Nat) (l:List (List UInt8 × AV)) (k e:Nat) (r:TRec) (hx:evA t x = .mp n) (hn:h n = .mp l) (hT:qW C.tab argT = some r) (he:r.kind = .map k e) (hN:d < N) :
  ja C.P N ⟨some d,.call ⟨.builtin .len, #[x], #[argT]⟩,ty',pos,af,gd⟩ t h ⟨yr x,[n],some d,.v (.int .i64 (l.length:Int)),[],[]⟩ :=
 jV _ _ rfl hN fun F ρ a w _ hs hh=>by
  have h1:=qE (x:=x) hs (fun j hj=>hj)
  rw [hx] at h1
  obtain ⟨b,hv,hρ⟩:=h1.mp_inv
  have ho:=hh n (by simp)
  rw [hn] at ho
  obtain ⟨b',_,_,h2,h3,es,clock,rfl,l0,h40,h41⟩:=ho
  have h4:es.size = l.length:=h41.len.trans h40.length_eq
  rw [hρ] at h2;simp only [Option.some.injEq,Prod.mk.injEq] at h2
  obtain ⟨rfl,_⟩:=h2
  have hu:=YI (C.ok _ r hT) he
  refine ⟨.int .i64 (l.length:Int),?_,.v _ _ rfl⟩
  simp [execOp,resolve,invoke,builtin,Builtin.len_,hv,run_underlying hu,Go.MapKept.run_getObj_map h3,goInt,h4]
theorem xx (T kT e:Nat) (xm xk xv:Operand) (n:Nat) (l:List (List UInt8 × AV)) (s:List UInt8) (x:AV) (r rk:TRec) (hm:evA t xm = .mp n) (hn:h n = .mp l) (hk:evA t xk = .v (str s)) (hv:evA t xv = x) (hT:qW C.tab T = some r) (he:r.kind = .map kT e) (hK:qW C.tab kT = some rk) (hks:rk.kind = .string) :
  ja C.P N ⟨none,.mapUpdate T xm xk xv,ty,pos,af,gd⟩ t h ⟨yr xm ++ (yr xk ++ yr xv),[n],none,.junk,[(n,.mp (xb l s x))],[]⟩:=by
 refine wX (ks:=[]) _ _ n (.mp (xb l s x)) [] (fun d' hd'=>by cases hd') (.inr rfl) (by simp) ?_
 intro B A h' F ρ a w hp hmm hh _
 have h1:=qE (x:=xm) hmm (fun j hj=>List.mem_append_left _ hj)
 have h2:=qE (x:=xk) hmm (fun j hj=>List.mem_append_right _ (List.mem_append_left _ hj))
 have h3:=qE (x:=xv) hmm (fun j hj=>List.mem_append_right _ (List.mem_append_right _ hj))
 rw [hm] at h1;rw [hk] at h2;rw [hv] at h3
 obtain ⟨h2,_⟩:=h2.v_inv
 obtain ⟨b,hv1,hρ⟩:=h1.mp_inv
 have hn' : h' n = .mp l:=(hh n (by simp)).trans hn
 have ho:=hp.own n
 rw [hn'] at ho
 obtain ⟨b',_,_,h5,h6,es,clock,rfl,l0,hperm,h78⟩:=ho
 have h7:=h78.len
 have h8:=h78.ents
 rw [hρ] at h5;simp only [Option.some.injEq,Prod.mk.injEq] at h5
 obtain ⟨rfl,_⟩:=h5
 have hu:=YI (C.ok _ r hT) he
 have hku:=vS (C.ok _ rk hK) hks
 have hpl:(fun m=>if m = n then some (some (b,0,0)) else ρ m) = ρ:=by
  funext m;by_cases hmn:m = n
  ·subst hmn;simp [hρ]
  ·simp [hmn]
 have hnew:=(hp.new n b _ (by rw [hn'];rfl) hρ)
 have hkey:=Go.MapKept.run_checkKey (P:=C.P) (w:=w) hku (k := .string ⟨s.toArray⟩) trivial false 9999
 have fin : ∀ (es' : Array MapEntry) (clock' : Nat),(Instr.mapUpdate T (.map (some b)) (.string ⟨s.toArray⟩) (a.eval xv)).run C.P w = .ok () { w with heap:=w.heap.setIfInBounds b (.map es' clock') } → MapIn F ρ es' clock' (xb l0 s x) →
   ∃ v w' pl tb,(execOp a.eval ⟨none,.mapUpdate T xm xk xv,ty,pos,af,gd⟩).run C.P w = .ok v w' ∧ (v = .skip ∧ (⟨none,.mapUpdate T xm xk xv,ty,pos,af,gd⟩ : Oper).dst = none ∨ ∃ u,v = .value u ∧ M F (fun m=>if m = n then some pl else ρ m) u .junk) ∧
     (ρ n = none ∨ ρ n = some pl) ∧ B.kept w' ∧ (∀ b,tb = some b → ∃ n0 c,(n0 = n ∨ ([]:List Nat)[0]? = some n0) ∧ (h' n0).isOwn = true ∧ ρ n0 = some (some (b,c))) ∧
     (∀ b,b < w.heap.size → tb ≠ some b → w'.heap[b]? = w.heap[b]?) ∧ (∀ b c,pl = some (b,c) → tb = some b ∨ w.heap.size ≤ b) ∧
     OwnAt F (fun m=>if m = n then some pl else ρ m) w' n (.mp (xb l s x)) ∧ (([]:List Nat) = [] → ρ n ≠ none):=by
  intro es' clock' hrun hmap
  obtain ⟨hs1,hs2⟩:=Go.MapKept.heap_set (o' := .map es' clock') h6
  refine ⟨.skip, { w with heap:=w.heap.setIfInBounds b (.map es' clock') },some (b,0,0),some b,?_,.inl ⟨rfl,rfl⟩,.inr hρ,?_,?_,?_,?_,?_,fun _=>by rw [hρ];simp⟩
  ·have h2' : a.eval xk = .string ⟨s.toArray⟩:=h2
   simp [execOp,hv1,h2',hrun]
  ·refine ⟨hp.kept.os,hp.kept.tape,hp.kept.output,by simpa using hp.kept.size,fun b' hb' ho'=>?_⟩
   rw [hs2 b' (by rintro rfl;rcases hnew.2 with hq|hq; · omega
                  ·exact ho' hq)]
   exact hp.kept.block b' hb' ho'
  ·intro b' hb'
   simp only [Option.some.injEq] at hb'
   subst hb'
   exact ⟨n,_,.inl rfl,by rw [hn'];rfl,hρ⟩
  ·intro b' _ hb'
   exact hs2 b' (fun e=>hb' (by rw [e]))
  ·intro b' c'' he
   simp only [Option.some.injEq,Prod.mk.injEq] at he
   exact .inl (by rw [he.1])
  ·rw [hpl]
   exact ⟨b,_,_,hρ,hs1,es',clock',rfl,_,WL s x hperm h78.nodup,hmap⟩
 rcases Jz s es.toList l0 0 (by simpa using h7) (fun j e' x' h1 h2=>(h8 j e' x' (by simpa using h1) h2).1) with ⟨h9,h10⟩|⟨j,e0,h9,h10,h11,h12⟩
 ·have hput:xb l0 s x = l0 ++ [(s,x)]:=by unfold xb;rw [h9]
  refine fin (es.push ⟨.string ⟨s.toArray⟩,a.eval xv,clock⟩) (clock + 1) ?_ ?_
  ·simp [Instr.mapUpdate,run_underlying hu,Go.MapKept.run_getObj_map h6,hkey,Go.MapKept.run_findKey hku h10,Go.MapKept.run_setObj_map _ h6]
  ·rw [hput]
   have hno:s ∉ l0.map (·.1):=fun hm=>by
    obtain ⟨e1,he1,he2⟩:=List.mem_map.1 hm
    have:=List.findIdx?_eq_none_iff.1 h9 e1 he1
    rw [he2] at this
    simp at this
   refine ⟨by simp [h7],?_,Go.MapKept.stamped_push h78.stamp (fun e1 he1 hk1=>?_),fun i e' x' hi hx'=>?_⟩
   ·rw [List.map_append,List.nodup_append]
    refine ⟨h78.nodup,by simp,fun y hy z hz=>?_⟩
    simp only [List.map_cons,List.map_nil,List.mem_singleton] at hz
    subst hz
    exact fun e1=>hno (e1 ▸ hy)
   ·obtain ⟨i,hi,rfl⟩:=List.getElem_of_mem he1
    have hi' : i < es.size:=by simpa using hi
    have hx0:=List.getElem?_eq_getElem (l:=l0) (i:=i) (by omega)
    have h1:=(h8 i _ _ (Array.getElem?_eq_getElem hi') hx0).1
    rw [Array.getElem_toList] at hk1
    rw [hk1,Y1] at h1
    exact hno (h1 ▸ List.mem_map.2 ⟨_,List.getElem_mem _,rfl⟩)
   by_cases hil:i < l0.length
   ·rw [Array.getElem?_push,if_neg (by omega)] at hi
    rw [List.getElem?_append_left hil] at hx'
    exact h8 i e' x' hi hx'
   ·have:i = l0.length:=by have:=(List.getElem?_eq_some_iff.1 hx').1;simp at this;omega
    subst this
    rw [← h7,Array.getElem?_push_size] at hi
    simp at hi hx'
    subst hi;subst hx'
    exact ⟨rfl,h3⟩
 ·have hput:xb l0 s x = l0.set j (s,x):=by unfold xb;rw [h9]
  have hj:es[j]? = some e0:=by simpa using h10
  have hjl:j < es.size:=(Array.getElem?_eq_some_iff.1 hj).1
  rw [Nat.zero_add] at h12
  refine fin (es.modify j fun e => { e with key := .string ⟨s.toArray⟩,val:=a.eval xv }) clock ?_ ?_
  ·have hsb:Instr.sameBits 10000 (.string ⟨s.toArray⟩) (.string ⟨s.toArray⟩) = true:=Go.MapKept.sameBits_self (d := .string) (k := .string ⟨s.toArray⟩) trivial _
   simp [Instr.mapUpdate,run_underlying hu,Go.MapKept.run_getObj_map h6,hkey,Go.MapKept.run_findKey hku h12,Go.MapKept.run_setObj_map _ h6,Instr.keyThatStays,hj,h11,hsb]
  ·rw [hput]
   have hx0:=List.getElem?_eq_getElem (l:=l0) (i:=j) (by omega)
   have hk0:l0[j].1 = s:=by
    have h1:=(h8 j e0 _ hj hx0).1
    rw [h11,Y1] at h1
    exact h1.symm
   refine ⟨by simp [h7],?_,Go.MapKept.stamped_modify h78.stamp j _ (fun e1 _=>rfl) (fun e1 _ he1=>?_),fun i e' x' hi hx'=>?_⟩
   ·rw [List.map_set]
    have:(l0.map (·.1)).set j s = l0.map (·.1):=by
     apply List.ext_getElem?
     intro i
     rw [List.getElem?_set]
     split
     ·rename_i hij
      subst hij
      rw [if_pos (by simp;omega),List.getElem?_map,hx0,Option.map_some,hk0]
     ·rfl
    rw [this]
    exact h78.nodup
   ·rw [hj] at he1
    injection he1 with he1
    rw [← he1];exact h11.symm
   rw [Array.getElem?_modify] at hi
   by_cases hij:j = i
   ·subst hij
    rw [if_pos rfl,hj] at hi
    rw [List.getElem?_set_self (by omega)] at hx'
    simp at hi hx'
    subst hi;subst hx'
    exact ⟨rfl,h3⟩
   ·rw [if_neg hij] at hi
    rw [List.getElem?_set_ne hij] at hx'
    exact h8 i e' x' hi hx'
theorem qcs (T kT e:Nat) (xm xk:Operand) (ok:Bool) (n:Nat) (l:List (List UInt8 × AV)) (s:List UInt8) (zv:Value) (z:AV) (r rk:TRec) (hm:evA t xm = .mp n) (hn:h n = .mp l) (hk:evA t xk = .v (str s)) (hT:qW C.tab T = some r) (he:r.kind = .map kT e) (hK:qW C.tab kT = some rk) (hks:rk.kind = .string)
  (hz : ∀ w,(zeroValue e).run C.P w = .ok zv w) (hzv : ∀ F ρ,M F ρ zv z) (hN:d < N) :
  ja C.P N ⟨some d,.lookup T xm xk ok,ty,pos,af,gd⟩ t h ⟨yr xm ++ yr xk,[n],some d,(if ok then .tup [(vF l s).getD z,.v (.bool (vF l s).isSome)] else (vF l s).getD z),[],[]⟩ :=
 jV _ _ rfl hN fun F ρ a w _ hs hh=>by
  have h1:=qE (x:=xm) hs (fun j hj=>List.mem_append_left _ hj)
  have h2:=qE (x:=xk) hs (fun j hj=>List.mem_append_right _ hj)
  rw [hm] at h1;rw [hk] at h2
  obtain ⟨h2,_⟩:=h2.v_inv
  have h2' : a.eval xk = .string ⟨s.toArray⟩:=h2
  obtain ⟨b,hv,hρ⟩:=h1.mp_inv
  have ho:=hh n (by simp)
  rw [hn] at ho
  obtain ⟨b',_,_,h5,h6,es,clock,rfl,l0,hperm,h78⟩:=ho
  rw [hρ] at h5;simp only [Option.some.injEq,Prod.mk.injEq] at h5
  obtain ⟨rfl,_⟩:=h5
  have hu:=YI (C.ok _ r hT) he
  have hku:=vS (C.ok _ rk hK) hks
  have hkey:=Go.MapKept.run_checkKey (P:=C.P) (w:=w) hku (k := .string ⟨s.toArray⟩) trivial es.isEmpty 9999
  rw [← WK s hperm h78.nodup]
  have mk2 : ∀ (v:Value) (x:AV) (b:Bool),M F ρ v x → M F ρ (if ok then .tuple #[v,.bool b] else v) (if ok then .tup [x,.v (.bool b)] else x):=fun v x b hx=>by
   cases ok with
   | false=>exact hx
   | true =>
     refine .tup _ [v,.bool b] _ rfl fun i u y hu hy=>?_
     match i with
     | 0=>simp at hu hy;subst hu;subst hy;exact hx
     | 1=>simp at hu hy;subst hu;subst hy;exact .v _ _ rfl
     | i + 2=>simp at hu
  rcases Jz s es.toList l0 0 (by simpa using h78.len) (fun j e' x' h1 h2=>(h78.ents j e' x' (by simpa using h1) h2).1) with ⟨h9,h10⟩|⟨j,e0,h9,h10,h11,h12⟩
  ·have hg:vF l0 s = none:=by
    unfold vF
    rw [List.find?_eq_none.2 fun e1 he1=>by have:=List.findIdx?_eq_none_iff.1 h9 e1 he1;simpa using this]
    rfl
   rw [hg]
   refine ⟨_,?_,mk2 zv z false (hzv F ρ)⟩
   simp [execOp,hv,h2',Instr.lookup,run_underlying hu,Go.MapKept.run_getObj_map h6,hkey,Go.MapKept.run_findKey hku h10,hz]
  ·have hj:es[j]? = some e0:=by simpa using h10
   have hjl:j < l0.length:=by rw [← h78.len];exact (Array.getElem?_eq_some_iff.1 hj).1
   have hx0:=List.getElem?_eq_getElem (l:=l0) (i:=j) hjl
   have hkx:=h78.ents j e0 _ hj hx0
   have hk0:l0[j].1 = s:=by
    have h1:=hkx.1
    rw [h11,Y1] at h1
    exact h1.symm
   have hg:vF l0 s = some l0[j].2:=(Qw h78.nodup).2 (by rw [← hk0];exact List.getElem_mem _)
   rw [hg]
   rw [Nat.zero_add] at h12
   refine ⟨_,?_,mk2 e0.val l0[j].2 true hkx.2⟩
   simp [execOp,hv,h2',Instr.lookup,run_underlying hu,Go.MapKept.run_getObj_map h6,hkey,Go.MapKept.run_findKey hku h12]
theorem jP (T kT e:Nat) (xm xk:Operand) (n:Nat) (l:List (List UInt8 × AV)) (s:List UInt8) (zv:Value) (z x:AV) (r rk:TRec) (hm:evA t xm = .mp n) (hn:h n = .mp l) (hk:evA t xk = .v (str s)) (hT:qW C.tab T = some r) (he:r.kind = .map kT e) (hK:qW C.tab kT = some rk) (hks:rk.kind = .string)
  (hz : ∀ w,(zeroValue e).run C.P w = .ok zv w) (hzv : ∀ F ρ,M F ρ zv z) (hx:(vF l s).getD z = x) (hN:d < N) :
  ja C.P N ⟨some d,.lookup T xm xk false,ty,pos,af,gd⟩ t h ⟨yr xm ++ yr xk,[n],some d,x,[],[]⟩:=by
 have:=qcs (C:=C) (N:=N) (d:=d) (ty:=ty) (pos:=pos) (af:=af) (gd:=gd) (t:=t) (h:=h) T kT e xm xk false n l s zv z r rk hm hn hk hT he hK hks hz hzv hN
 rw [hx] at this
 exact this
end ops
theorem qt {L:List (Nat × Nat)} {nh n n' : Nat} (hn:Maps L nh n n'):j3 L nh (.mp n) (.mp n'):=fun F ρ ρ' v h hm=>by
 cases hm with|mp _ n b hρ=>exact .mp _ n' b (h n n' hn _ hρ)
theorem qb2 {L:List (Nat × Nat)} {nh:Nat} {σ:St} {i n n' : Nat} {l:List (Nat × AV)} (hx:qS σ.ts i = .mp n) (hm:Maps L nh n n') (hl:vA L nh σ l):vA L nh σ ((i,.mp n') :: l):=Qe hx (qt hm) hl
theorem qbO {L:List (Nat × Nat)} {nh:Nat} {σ:St} {n n' : Nat} {m m' : List (List UInt8 × AV)} {l:List (Nat × HB)} (hx:jg σ.hs n = .mp m) (hm:Maps L nh n n') (hr:m.Perm m') (hp : ∀ e,e ∈ m' → e.2.pure = true) (hl:vp L nh σ l):vp L nh σ ((n',.mp m') :: l):=by
 refine ⟨⟨n,hm,?_⟩,hl⟩
 rw [hx]
 refine ⟨m',hr,rfl,fun i x y h1 h2=>?_⟩
 rw [h1] at h2
 obtain rfl:=Option.some.inj h2
 exact ⟨rfl,qk (hp x (List.mem_of_getElem? h1))⟩
end Go.Ab
set_option linter.unusedSimpArgs false
set_option linter.unusedVariables false
namespace Go.Ab
open Go.RowKit Go.ChangeShapes
def Js (tab:List (Nat × TRec)) (W:Nat):Nat → Nat → List AV → Prop
 | 0,_,_=>False
 | n + 1,t,xs=>match qW tab t with
   | none=>True
   | some r=>match r.kind with
     | .int k => ∃ a,xs = [.v (.int k a)] ∧ (Lit.int k a).wf = true
     | .bool => ∃ b,xs = [.v (.bool b)]
     | .string => ∃ s:List UInt8,xs = [.v (str s)] ∧ s.length ≤ W
     | .slice e=>match qW tab e with
       | none=>True
       | some re=>re.size ≠ 0 → ∃ rows,xs = [.sl false rows] ∧ rows.length * re.bytes ≤ W ∧ ∀ row,row ∈ rows → Js tab W n e row
     | .struct fs=>X1 tab 0 fs = some r.size → qde (Js tab W n) fs xs
     | _=>True
section
variable {H:Type} {enc:TypeId × Value → H} {w:World} {sp:Nat → Bool} {held:Bool}
theorem KS (W:Nat) (C:Cx) : ∀ (n:Nat) (t:Nat) (cs:List Value) (x:DataW H × List MemPlace),DataW.trod enc C.P w 0 sp held n t cs = some x → (∀ m,m ∈ x.1.weights C.P t → m ≤ W) →
  ∃ xs:List AV,AllM (QU w) noPlaces cs xs ∧ Js C.tab W n t xs
 | 0,t,cs,x,h,_=>by simp [DataW.trod] at h
 | n + 1,t,cs,x,h,hw=>by
   have junk:Js C.tab W (n + 1) t (cs.map fun _ => .junk) → ∃ xs:List AV,AllM (QU w) noPlaces cs xs ∧ Js C.tab W (n + 1) t xs:=fun h=>⟨_,Zx _ _ cs,h⟩
   cases hl:qW C.tab t with
   | none=>exact junk (by simp [Js,hl])
   | some r =>
     have hr:=C.ok t r hl
     obtain ⟨d,inf,z,hu,hi,_,hk,_,_,_⟩:=yG hr
     cases hkk:r.kind with
     | int k =>
       rw [hkk] at hk
       cases d<;>simp only [vE,reduceCtorEq] at hk
       injection hk with hk
       subst hk
       obtain ⟨a,rfl,_,hwf⟩:=DataW.trod_int hu h
       exact ⟨[.v (.int k a)],AllM.cons (.v _ _ rfl) AllM.nil,by simp only [Js,hl,hkk];exact ⟨a,rfl,hwf⟩⟩
     | bool =>
       rw [hkk] at hk
       cases d<;>simp only [vE,reduceCtorEq] at hk
       obtain ⟨b,rfl,_⟩:=DataW.trod_bool hu h
       exact ⟨[.v (.bool b)],AllM.cons (.v _ _ rfl) AllM.nil,by simp only [Js,hl,hkk];exact ⟨b,rfl⟩⟩
     | string =>
       rw [hkk] at hk
       cases d<;>simp only [vE,reduceCtorEq] at hk
       obtain ⟨s,rfl,rfl,_⟩:=DataW.trod_string hu h
       refine ⟨[.v (.string s)],AllM.cons (.v _ _ rfl) AllM.nil,?_⟩
       simp only [Js,hl,hkk]
       exact ⟨s.data.toList,rfl,hw _ (by simp [DataW.weights])⟩
     | slice e =>
       rw [hkk] at hk
       cases d with
       | slice e' =>
         simp only [vE,TK.slice.injEq] at hk
         subst hk
         cases he:qW C.tab e with
         | none=>exact junk (by simp [Js,hl,hkk,he])
         | some re =>
           have hsz:=Qj (C.ok e re he)
           have hby:=Ke (C.ok e re he)
           by_cases h0:re.size = 0
           ·exact junk (by simp [Js,hl,hkk,he,h0])
           ·rcases DataW.trod_slice hu h with ⟨rfl,_⟩|⟨a,len,cap,elems,rest,n',hn',rfl,rfl,_,hle,_,hel1,hel0,_,_⟩
            ·refine ⟨[.sl false []],AllM.cons (.sl0 _ none 0 false (fun e=>by cases e) (fun _=>rfl)) AllM.nil,?_⟩
             simp only [Js,hl,hkk,he]
             exact fun _=>⟨[],rfl,by simp,fun row h=>by cases h⟩
            ·injection hn' with hn'
             subst hn'
             have hel : ∀ i,i < len → ∃ row:List AV,(∃ cs',w.cells? 0 (a.add (i * re.size)) re.size = some cs' ∧ AllM (QU w) noPlaces cs' row) ∧ Js C.tab W n e row:=by
              intro i hi
              have h0:=hel0 i hi
              rw [List.getElem?_eq_getElem (by omega)] at h0
              obtain ⟨cs',h1,h2⟩:=Option.bind_eq_some_iff.1 h0
              obtain ⟨row,h3,h4⟩:=KS W C n e cs' _ h2 (fun q hq=>hw q (by
               simp only [DataW.weights,hu,List.mem_cons,List.mem_append]
               exact .inr (.inl (Jr (List.mem_map.2 ⟨_,List.getElem_mem _,rfl⟩) hq))))
              rw [hsz] at h1
              exact ⟨row,⟨cs',h1,h3⟩,h4⟩
             let f:Nat → List AV:=fun i=>if hi:i < len then Classical.choose (hel i hi) else []
             have hf : ∀ i,i < len → (∃ cs',w.cells? 0 (a.add (i * re.size)) re.size = some cs' ∧ AllM (QU w) noPlaces cs' (f i)) ∧ Js C.tab W n e (f i):=fun i hi=>by
              have e:f i = Classical.choose (hel i hi):=dif_pos hi
              rw [e];exact Classical.choose_spec (hel i hi)
             have hlen:((List.range len).map f).length = len:=by simp
             have hget : ∀ (i:Nat) row,((List.range len).map f)[i]? = some row → i < len ∧ row = f i:=fun i row hi=>by
              have:i < len:=by have:=(List.getElem?_eq_some_iff.1 hi).1;simpa using this
              rw [List.getElem?_map,List.getElem?_range this] at hi
              exact ⟨this,by simpa using hi.symm⟩
             refine ⟨[.sl false ((List.range len).map f)],AllM.cons ?_ AllM.nil,?_⟩
             ·by_cases hl0:len = 0
              ·subst hl0;exact .sl0 _ (some a) cap false (fun e=>by cases e) (fun e=>by cases e)
              ·obtain ⟨⟨cs0,hc0,_⟩,_⟩:=hf 0 (by omega)
               obtain ⟨_,hcl0,hat0⟩:=World.cells?_some hc0
               obtain ⟨ba,oa,sa⟩:=a
               have h00:=hat0 0 (by omega)
               rw [List.getElem?_eq_getElem (by omega)] at h00
               have hspot:sa = none:=by have:=World.cell?_spot h00;simpa [Addr.add] using this
               subst hspot
               have hadd : ∀ oa k,(⟨ba,oa,none⟩ : Addr).add k = ⟨ba,oa + k,none⟩:=fun oa k=>by
                unfold Addr.add;split
                ·rename_i h;subst h;rfl
                ·rfl
               simp only [hadd] at h00
               obtain ⟨c,el,fr,hblk,_⟩:=qaH (s:=none) h00
               have hcell : ∀ i j,i < len → j < re.size → ∀ cs',w.cells? 0 ((⟨ba,oa,none⟩ : Addr).add (i * re.size)) re.size = some cs' → c[oa + i * re.size + j]? = cs'[j]?:=by
                intro i j hi hj cs' hcs
                obtain ⟨_,hcl,hat'⟩:=World.cells?_some hcs
                have h1:=hat' j hj
                simp only [hadd] at h1
                unfold World.cell? at h1
                simpa [hblk] using h1
               have hlast:oa + len * re.size ≤ c.size:=by
                obtain ⟨⟨cs1,hc1,_⟩,_⟩:=hf (len - 1) (by omega)
                have h1:=hcell (len - 1) (re.size - 1) (by omega) (by omega) cs1 hc1
                obtain ⟨_,hcl1,_⟩:=World.cells?_some hc1
                rw [List.getElem?_eq_getElem (by omega)] at h1
                have h2:=(Array.getElem?_eq_some_iff.1 h1).1
                have h3:(len - 1) * re.size + re.size = len * re.size:=by
                 rw [← Nat.succ_mul];congr 1;omega
                omega
               have:=M.sl (F:=QU w) noPlaces ba oa cap c el fr false re.size ((List.range len).map f) hblk (by rw [hlen];exact hle) (fun e=>by cases e) (by rw [hlen];exact hlast)
                (fun row hrow=>by
                 obtain ⟨i,hi,rfl⟩:=List.mem_map.1 hrow
                 obtain ⟨⟨cs',h1,h2⟩,_⟩:=hf i (List.mem_range.1 hi)
                 rw [← h2.1,(World.cells?_some h1).2.1])
                (fun i j row y v hi hj hv=>by
                 obtain ⟨hil,rfl⟩:=hget i row hi
                 obtain ⟨⟨cs',h1,h2⟩,_⟩:=hf i hil
                 have hjl:j < re.size:=by
                  have:=(List.getElem?_eq_some_iff.1 hj).1
                  rw [← h2.1,(World.cells?_some h1).2.1] at this;exact this
                 exact h2.2 j v y (by rw [← hcell i j hil hjl cs' h1];exact hv) hj)
               rw [hlen] at this
               exact this
             ·simp only [Js,hl,hkk,he]
              intro _
              refine ⟨_,rfl,?_,fun row hrow=>?_⟩
              ·rw [hlen]
               have:=hw (((elems.map (·.1)).length + (rest.map (·.1)).length) * C.P.bytesOf e) (by simp [DataW.weights,hu])
               rw [hby,List.length_map,hel1] at this
               exact Nat.le_trans (Nat.mul_le_mul_right _ (by omega)) this
              ·obtain ⟨i,hi,rfl⟩:=List.mem_map.1 hrow
               exact (hf i (List.mem_range.1 hi)).2
       | _=>simp only [vE,reduceCtorEq] at hk
     | struct fs =>
       rw [hkk] at hk
       cases d with
       | struct fds =>
         simp only [vE,TK.struct.injEq] at hk
         obtain ⟨ys,n',hn',rfl,hcl,hyl,hfd⟩:=DataW.trod_struct hu h
         injection hn' with hn'
         subst hn'
         by_cases ht:X1 C.tab 0 fs = some r.size
         ·have key : ∀ (l:List Field) (p:Nat),X1 C.tab p (l.map fun f=>(f.offset,f.type)) = some r.size → (∀ f,f ∈ l → ∃ y,DataW.trod enc C.P w 0 sp held n f.type ((cs.drop f.offset).take (C.P.cellsOf f.type)) = some y ∧ ∀ m,m ∈ y.1.weights C.P f.type → m ≤ W) →
            ∃ xs,AllM (QU w) noPlaces (cs.drop p) xs ∧ qde (Js C.tab W n) (l.map fun f=>(f.offset,f.type)) xs:=by
           intro l
           induction l with
           | nil =>
             intro p hp _
             simp only [List.map_nil,X1,Option.some.injEq] at hp
             refine ⟨[],?_,rfl⟩
             rw [List.drop_eq_nil_of_le (by rw [hcl,Qj hr];omega)]
             exact AllM.nil
           | cons f l ih =>
             intro p hp hall
             simp only [List.map_cons,X1] at hp
             split at hp
             ·rename_i rf hrf
              split at hp
              ·rename_i hoff
               obtain ⟨y,hy,hyw⟩:=hall f (List.mem_cons_self ..)
               obtain ⟨a,ha1,ha2⟩:=KS W C n f.type _ y hy hyw
               obtain ⟨b,hb1,hb2⟩:=ih _ hp (fun g hg=>hall g (List.mem_cons_of_mem _ hg))
               refine ⟨a ++ b,?_,a,b,rfl,ha2,hb2⟩
               rw [hoff,Qj (C.ok _ _ hrf)] at ha1
               have:=AllM.app ha1 hb1
               rw [← List.drop_drop,List.take_append_drop] at this
               exact this
              ·cases hp
             ·cases hp
          obtain ⟨xs,h1,h2⟩:=key fds.toList 0 (by rw [← hk];exact ht) (by
           intro f hf
           obtain ⟨j,hj⟩:=List.mem_iff_getElem?.1 hf
           have hj' : fds[j]? = some f:=by simpa using hj
           have h3:=hfd j f hj'
           have hjl:j < ys.length:=by rw [hyl];exact (Array.getElem?_eq_some_iff.1 hj').1
           rw [List.getElem?_eq_getElem hjl] at h3
           refine ⟨_,h3,fun m hm=>hw m ?_⟩
           simp only [DataW.weights,hu]
           exact DataW.weights_mem_each (j:=j) (t:=f.type) (d:=ys[j].1) (by simp [hj]) (by simp [List.getElem?_eq_getElem hjl]) m hm)
          refine ⟨xs,by simpa using h1,?_⟩
          simp only [Js,hl,hkk]
          intro _
          rw [hk];exact h2
         ·exact junk (by simp [Js,hl,hkk,ht])
       | _=>simp only [vE,reduceCtorEq] at hk
     | pointer e=>exact junk (by simp [Js,hl,hkk])
     | array a b=>exact junk (by simp [Js,hl,hkk])
     | map a b=>exact junk (by simp [Js,hl,hkk])
     | other=>exact junk (by simp [Js,hl,hkk])
end
def qaq (tab:List (Nat × TRec)) (W:Nat) (t:Nat) (y:AV):Prop:=match qW tab t with
 | none=>True
 | some r=>if r.agg = true then ∃ n xs,y = .agg xs ∧ Js tab W n t xs else ∃ n,Js tab W n t [y]
def Z5 (tab:List (Nat × TRec)) (W:Nat):List Nat → List AV → Prop
 | [],ys=>ys = []
 | t :: ts,ys => ∃ y l,ys = y :: l ∧ qaq tab W t y ∧ Z5 tab W ts l
section
variable {H:Type} {enc:TypeId × Value → H} {w:World} {sp:Nat → Bool} {held:Bool}
theorem qeG (W:Nat) (C:Cx) {t:Nat} {v:Value} {d:DataW H} {ps:List MemPlace} {b0:Nat} {rch:Reach} (hv:Value.okWide C.P w rch b0 t v) (h:DataW.Trod enc C.P w 0 sp held t v d ps)
  (hw : ∀ m,m ∈ d.weights C.P t → m ≤ W) : ∃ y,M (QU w) noPlaces v y ∧ qaq C.tab W t y:=by
 obtain ⟨n,h⟩:=h
 obtain ⟨xs,h1,h2⟩:=KS W C n t _ _ h hw
 cases hl:qW C.tab t with
 | none=>exact ⟨.junk,.junk _ v,by simp [qaq,hl]⟩
 | some r =>
   obtain ⟨dd,inf,z,hu,_,_,_,hag,_⟩:=yG (C.ok t r hl)
   by_cases hr:r.agg = true
   ·have hagg : ∃ cs,v = .agg cs:=by
     rw [hr] at hag
     cases dd<;>simp [Ko] at hag
     all_goals (simp only [Value.okWide,hu] at hv;obtain ⟨cs,rfl,_⟩:=hv;exact ⟨cs,rfl⟩)
    obtain ⟨cs,rfl⟩:=hagg
    refine ⟨.agg xs,?_,?_⟩
    ·have:=M.agg (F:=QU w) noPlaces cs.toList xs h1.1 h1.2
     simpa using this
    ·simp only [qaq,hl,hr,if_true]
     exact ⟨n,xs,rfl,h2⟩
   ·have hcells:v.cells.toList = [v]:=by
     have hr' : r.agg = false:=by simpa using hr
     rw [hr'] at hag
     cases v with
     | agg cs=>cases dd<;>simp [Ko] at hag<;>simp [Value.okWide,hu,Cell.okWide,Cell.ok] at hv
     | _=>rfl
    rw [hcells] at h1
    obtain ⟨hlen,hm⟩:=h1
    match xs,hlen,hm,h2 with
    | [y],_,hm,h2 =>
      refine ⟨y,hm 0 v y rfl rfl,?_⟩
      simp only [qaq,hl,hr,if_false]
      exact ⟨n,h2⟩
theorem qdx (W:Nat) (C:Cx) {b0:Nat} {rch:Reach} : ∀ (ts:List TypeId) (vs:List Value) (ds:List (DataW H)) (ps:List MemPlace),DataW.TrodAll enc C.P w 0 sp held ts vs ds ps →
  (∀ (j:Nat) t v,ts[j]? = some t → vs[j]? = some v → Value.okWide C.P w rch b0 t v) → (∀ m,m ∈ DataW.weightsEach C.P ts ds → m ≤ W) → ∃ ys,AllM (QU w) noPlaces vs ys ∧ Z5 C.tab W ts ys
 | [],vs,ds,ps,h,_,_=>by
   obtain ⟨rfl,rfl,rfl⟩:=trodAll_nil h
   exact ⟨[],AllM.nil,rfl⟩
 | t :: ts,vs,ds,ps,h,hok,hw=>by
   obtain ⟨v,vs',d,ds',p,q,rfl,rfl,rfl,h0,hr⟩:=trodAll_cons h
   obtain ⟨y,h1,h2⟩:=qeG W C (hok 0 t v rfl rfl) h0 (fun m hm=>hw m (by simp only [DataW.weightsEach,List.mem_append];exact .inl hm))
   obtain ⟨ys,h3,h4⟩:=qdx W C ts vs' ds' q hr (fun j t v ht hv=>hok (j + 1) t v (by simpa using ht) (by simpa using hv)) (fun m hm=>hw m (by simp only [DataW.weightsEach,List.mem_append];exact .inr hm))
   exact ⟨y :: ys,AllM.cons h1 h3,y,ys,rfl,h2,h4⟩
theorem qaP (W:Nat) (C:Cx) {f:FuncId} {ts:List TypeId} {vs:List Value} {ds:List (DataW H)} {ps:List MemPlace} {b0:Nat} {rch:Reach} (hT:DataW.TrodAll enc C.P w 0 (fun _=>true) true ts vs ds ps)
  (hok : ∀ (j:Nat) t v,ts[j]? = some t → vs[j]? = some v → Value.okWide C.P w rch b0 t v) (hw : ∀ m,m ∈ DataW.weightsEach C.P ts ds → m ≤ W) (hl:laidOutB C.P = true)
  (hr:ts.all (fun t=>C.P.readableRec t && decide (t < C.P.types.size)) = true) (law : ∀ ys,Z5 C.tab W ts ys → xH C.P f ys (.v (.bool true))) (htab : ∀ b p,KN b = some p → ∃ cs e fr,p cs ∧ w.heap[b]? = some (.cells cs e fr):=by intro b cs h;cases h) :
  Calls C.P f vs.toArray w fun e w'=>e = .returned (.bool true) ∧ Below w.heap.size w w' ∧ DataW.TrodAll enc C.P w' 0 (fun b=>decide (b < w.heap.size)) true ts vs ds ps:=by
 obtain ⟨ys,hm,hy⟩:=qdx W C ts vs ds ps hT hok hw
 let B:Base := { w0:=w,F0:=QU w,ρ0:=noPlaces,O0:=fun _=>False,N:=vs.length,tab:=htab }
 have hGa:Ga B (· < ([]:List HB).length) (fun i=>ys.getD i .junk) (fun n=>([]:List HB).getD n .dead) ⟨vs.toArray,[]⟩ w:=by
  refine ⟨rfl,by simp [B],QU w,noPlaces,?_,fun i=>?_⟩
  ·exact { kept:=⟨rfl,rfl,rfl,Nat.le_refl _,fun _ _ _=>rfl⟩,agree:=fun b o h=>h,grow:=Still.le_refl _,fresh:=fun b hb => .inl hb,names:=Places.le_refl _,dom:=fun n hn=>absurd rfl hn,own:=fun n=>by simp [OwnAt],new:=fun n b c hn=>by simp [HB.isOwn] at hn,sep:=fun n m b c c' _ hn=>by simp [HB.isOwn] at hn }
  ·show M (QU w) noPlaces _ (ys.getD i .junk)
   cases hyi:ys[i]? with
   | none=>rw [List.getD_eq_getElem?_getD,hyi];exact .junk _ _
   | some y =>
     rw [List.getD_eq_getElem?_getD,hyi]
     have hi:i < vs.length:=by rw [hm.1];exact (List.getElem?_eq_some_iff.1 hyi).1
     have hv:vs[i]? = some vs[i]:=List.getElem?_eq_getElem hi
     simp only [Array.getD_eq_getD_getElem?,List.getElem?_toArray,hv,Option.getD_some]
     exact hm.2 i _ y hv hyi
 refine (law ys hy B vs w hm.1 rfl hGa).mono fun e w' ⟨v,he,_,_,F,ρ,hp,ht⟩=>?_
 have hv:v = .bool true:=by
  have:=ht 0
  simp only [one,if_true] at this
  exact this.v_inv.1
 have hb:Below w.heap.size w w':=⟨hp.kept.os,hp.kept.tape,hp.kept.output,hp.kept.size,fun b hb=>hp.kept.block b hb (fun h=>h)⟩
 exact ⟨by rw [he,hv],hb,Zi hl hb ts vs ds ps hr hT⟩
end
end Go.Ab
